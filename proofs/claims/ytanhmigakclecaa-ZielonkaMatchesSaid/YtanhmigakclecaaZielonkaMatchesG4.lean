/- Plain law: solutions are correct, and all strategies are tried, and what goes with it. -/
import Derived.Test.YtanhmigakclecaaZielonkaMatchesG3
import Derived.Test.YtanhmigakclecaaPmC
import Derived.Test.YtanhmigakclecaaZielonkaMatchesG0
import Derived.Test.YtanhmigakclecaaPmL
set_option linter.unusedVariables false
namespace Go.Am.Ar
section
variable {ow pr ws ss st : List Int} {su : List (List Int)} {p : Int}
theorem sf_tab {n v : Nat} {F : Nat → List Int} (hv : v < n) : Sf (tabA n F) v = (F v).map Int.toNat := by
  unfold Sf; rw [List.getD, tabA_get hv]; rfl
theorem mem_sf (V : Valid ow pr su) {v : Nat} (hv : v < ow.length) {x : Int} (h : x ∈ su.getD v []) : x.toNat ∈ Sf su v := List.mem_map.2 ⟨x, h, rfl⟩
theorem sf_mem (V : Valid ow pr su) {v : Nat} (hv : v < ow.length) {x : Int} (h0 : 0 ≤ x) (h : x.toNat ∈ Sf su v) : x ∈ su.getD v [] := by
  obtain ⟨y, hy, e⟩ := List.mem_map.1 h
  have := su_range V hv hy
  rw [show x = y by omega]; exact hy
theorem stN_eq (v : Nat) : stN ss v = (ss.getD v 0).toNat := rfl
theorem SolL.corr (V : Valid ow pr su) (hc : checkM ow pr su = 0) (ho : ∀ x ∈ ow, 0 ≤ x) (L : SolL ow pr su ws ss) : CorrP ow pr su ws ss := by
  have mem : ∀ p : Int, p = 0 ∨ p = 1 → ∀ v, v < ow.length → ws.getD v 0 = p → ow.getD v 0 = p → ss.getD v 0 ∈ su.getD v [] ∧ 0 ≤ ss.getD v 0 := fun p hp v hv hw hov => by
    have h0 := L.own v hv (by rw [hw, hov])
    exact ⟨sf_mem V hv h0 ((L.sol.of hp).own v ⟨hv, hw⟩ hov).1, h0⟩
  refine ⟨hc, L.lw, L.ls, fun v hv => ⟨?_, fun h => ?_, fun h => L.opp v hv h⟩, fun p hp v hv hw => ?_⟩
  · have := L.sol.r01 v hv
    intro h; omega
  · have h01 := L.sol.r01 v hv
    exact (mem (ws.getD v 0) h01 v hv rfl h.symm).1
  · refine (L.sol.of hp).safe (fun a b ha hab => ?_) (v := v) ⟨hv, hw⟩
    have hab : b ∈ Sf (tabA ow.length (movF ow su p (tabA ow.length (ownF ow ws ss p)))) a := hab
    rw [sf_tab ha.1] at hab
    have hown : ow.getD a 0 = p → (tabA ow.length (ownF ow ws ss p)).getD a 0 = ss.getD a 0 := fun h => by
      rw [List.getD, tabA_get ha.1]
      show ownF ow ws ss p a = _
      unfold ownF; rw [if_pos ⟨h, ha.2⟩]
    unfold movF at hab
    by_cases q : ow.getD a 0 = p
    · obtain ⟨m1, m2⟩ := mem p hp a ha.1 ha.2 q
      rw [hown q, if_pos ⟨q, m1⟩] at hab
      simp only [List.map_cons, List.map_nil, List.mem_singleton] at hab
      subst hab
      have := su_range V ha.1 m1
      exact ⟨mem_sf V ha.1 m1, by omega, fun _ => rfl⟩
    · rw [if_neg (fun h => q h.1)] at hab
      have hS : b ∈ Sf su a := hab
      exact ⟨hS, (valid_S V a ha.1).2 b hS, fun h => absurd h q⟩
theorem win_sound (V : Valid ow pr su) (ho : ∀ x ∈ ow, 0 ≤ x) (L : SolL ow pr su ws ss) (hst : ∀ v, v < ow.length → ow.getD v 0 = 0 → st.getD v 0 ∈ su.getD v []) {v : Nat} (hv : v < ow.length)
    (h : ¬ Lost (fun a b => b ∈ Sf (tabA ow.length (movF ow su 0 st)) a) (zP pr) 0 v) : ws.getD v 0 = 0 := by
  rcases L.sol.r01 v hv with q | q
  · exact q
  exfalso
  apply h
  have hS := valid_S V
  have hh : ∀ u, u < ow.length → ∃ x, x ∈ Sf su u := fun u hu => by
    cases e : Sf su u with
    | nil => exact absurd e (hS u hu).1
    | cons x l => exact ⟨x, by simp⟩
  classical
  let f : Nat → Nat := fun u => if hu : u < ow.length then (if ow.getD u 0 = 0 then (st.getD u 0).toNat else if ws.getD u 0 = 1 then stN ss u else Classical.choose (hh u hu)) else 0
  have f0 : ∀ u, u < ow.length → ow.getD u 0 = 0 → f u = (st.getD u 0).toNat := fun u hu h => by show (if hu : _ then _ else _) = _; rw [dif_pos hu, if_pos h]
  have f1 : ∀ u, u < ow.length → ¬ ow.getD u 0 = 0 → ws.getD u 0 = 1 → f u = stN ss u := fun u hu h h1 => by show (if hu : _ then _ else _) = _; rw [dif_pos hu, if_neg h, if_pos h1]
  have f2 : ∀ u, u < ow.length → f u ∈ Sf su u := fun u hu => by
    by_cases h : ow.getD u 0 = 0
    · rw [f0 u hu h]; exact mem_sf V hu (hst u hu h)
    · by_cases h1 : ws.getD u 0 = 1
      · rw [f1 u hu h h1]
        have := valid_O V ho u hu
        have : zO ow u = 1 := by
          rcases this with e | e
          · exact absurd e h
          · exact e
        exact (L.sol.p1.own u ⟨hu, h1⟩ this).1
      · show (if hu : _ then _ else _) ∈ _
        rw [dif_pos hu, if_neg h, if_neg h1]; exact Classical.choose_spec (hh u hu)
  refine L.sol.p1.lost (p := 0) (by decide) (f := f) (fun u hu => ⟨f2 u hu, (hS u hu).2 _ (f2 u hu)⟩) (fun u hu hou => ?_) (fun u hu => ?_) (v := v) ⟨hv, q⟩
  · exact f1 u hu.1 (by rw [show ow.getD u 0 = 1 from hou]; decide) hu.2
  · rw [sf_tab hu.1]
    unfold movF
    by_cases h : ow.getD u 0 = 0
    · rw [if_pos ⟨h, hst u hu.1 h⟩, f0 u hu.1 h]; simp
    · rw [if_neg (fun q => h q.1)]; exact f2 u hu.1
theorem win_done (V : Valid ow pr su) (ho : ∀ x ∈ ow, 0 ≤ x) (L : SolL ow pr su ws ss) (hst : ∀ v, v < ow.length → ow.getD v 0 = 0 → st.getD v 0 ∈ su.getD v [])
    (hc : ∀ v, v < ow.length → ow.getD v 0 = 0 → ws.getD v 0 = 0 → st.getD v 0 = ss.getD v 0) {v : Nat} (hv : v < ow.length) (hw : ws.getD v 0 = 0) : ¬ Lost (fun a b => b ∈ Sf (tabA ow.length (movF ow su 0 st)) a) (zP pr) 0 v := by
  refine L.sol.p0.safe (fun a b ha hab => ?_) (v := v) ⟨hv, hw⟩
  have hab : b ∈ Sf (tabA ow.length (movF ow su 0 st)) a := hab
  rw [sf_tab ha.1] at hab
  unfold movF at hab
  by_cases q : ow.getD a 0 = 0
  · have m1 := hst a ha.1 q
    rw [if_pos ⟨q, m1⟩] at hab
    simp only [List.map_cons, List.map_nil, List.mem_singleton] at hab
    subst hab
    have := su_range V ha.1 m1
    exact ⟨mem_sf V ha.1 m1, by omega, fun _ => by rw [hc a ha.1 q ha.2]; rfl⟩
  · rw [if_neg (fun h => q h.1)] at hab
    exact ⟨hab, (valid_S V a ha.1).2 b hab, fun h => absurd h q⟩
end
def digL (ow : List Int) (su : List (List Int)) : List Nat := tabA ow.length fun v => if ow.getD v 0 = 1 then 0 else (su.getD v []).length - 1
theorem mr_inc : ∀ {ns : List Nat} {cs : List Int} {j n : Nat} {c : Int}, mOk ns cs → (∀ (u : Nat) (c : Int) (n : Nat), u < j → cs[u]? = some c → ns[u]? = some n → c = n) → cs[j]? = some c → ns[j]? = some n → mr ns (List.replicate j 0 ++ (c + 1) :: cs.drop (j + 1)) = mr ns cs + 1
  | n0 :: ns, c0 :: cs, 0, n, c, ⟨h0, h1, h2⟩, hm, hc, hn => by
    simp at hc; subst hc
    show (c0 + 1).toNat + (n0 + 1) * mr ns cs = c0.toNat + (n0 + 1) * mr ns cs + 1
    omega
  | n0 :: ns, c0 :: cs, j + 1, n, c, ⟨h0, h1, h2⟩, hm, hc, hn => by
    have e := hm 0 c0 n0 (by omega) rfl rfl
    have ih := mr_inc (ns := ns) (cs := cs) (j := j) (n := n) (c := c) h2 (fun u c n hu h1 h2 => hm (u + 1) c n (by omega) (by simpa using h1) (by simpa using h2)) (by simpa using hc) (by simpa using hn)
    show (0 : Int).toNat + (n0 + 1) * mr ns (List.replicate j 0 ++ (c + 1) :: cs.drop (j + 1)) = c0.toNat + (n0 + 1) * mr ns cs + 1
    rw [ih, Nat.mul_add]; omega
  | [], [], _, _, _, _, _, hc, _ => by simp at hc
  | [], _ :: _, _, _, _, h, _, _, _ => h.elim
  | _ :: _, [], _, _, _, h, _, _, _ => h.elim
theorem mOk_of : ∀ {ns : List Nat} {cs : List Int}, cs.length = ns.length → (∀ (u : Nat) (c : Int) (n : Nat), cs[u]? = some c → ns[u]? = some n → 0 ≤ c ∧ c ≤ n) → mOk ns cs
  | [], [], _, _ => trivial
  | n :: ns, c :: cs, hl, h => ⟨(h 0 c n rfl rfl).1, (h 0 c n rfl rfl).2, mOk_of (by simpa using hl) fun u c n h1 h2 => h (u + 1) c n (by simpa using h1) (by simpa using h2)⟩
  | [], _ :: _, h, _ => by simp at h
  | _ :: _, [], h, _ => by simp at h
theorem mOk_get : ∀ {ns : List Nat} {cs : List Int}, mOk ns cs → ∀ {u : Nat} {c : Int} {n : Nat}, cs[u]? = some c → ns[u]? = some n → 0 ≤ c ∧ c ≤ n
  | n :: ns, c :: cs, ⟨h0, h1, h2⟩, 0, x, y, hx, hy => by simp at hx hy; subst hx; subst hy; exact ⟨h0, h1⟩
  | n :: ns, c :: cs, ⟨h0, h1, h2⟩, u + 1, x, y, hx, hy => mOk_get h2 (by simpa using hx) (by simpa using hy)
  | [], [], _, _, _, _, hx, _ => by simp at hx
  | [], _ :: _, h, _, _, _, _, _ => h.elim
  | _ :: _, [], h, _, _, _, _, _ => h.elim
section
variable {ow pr ws ss : List Int} {su : List (List Int)}
theorem tgt_ex (V : Valid ow pr su) (ho : ∀ x ∈ ow, 0 ≤ x) (L : SolL ow pr su ws ss) : ∃ tg : List Int, mOk (digL ow su) tg ∧ ∀ v, v < ow.length → ow.getD v 0 = 0 → ws.getD v 0 = 0 → (su.getD v [])[(tg.getD v 0).toNat]? = some (ss.getD v 0) := by
  have mem : ∀ v, v < ow.length → ow.getD v 0 = 0 → ws.getD v 0 = 0 → ∃ k : Nat, k < (su.getD v []).length ∧ (su.getD v [])[k]? = some (ss.getD v 0) := fun v hv hov hw => by
    have h0 := L.own v hv (by rw [hw, hov])
    have := sf_mem V hv h0 (L.sol.p0.own v ⟨hv, hw⟩ hov).1
    obtain ⟨k, hk⟩ := List.getElem?_of_mem this
    exact ⟨k, getSome_lt hk, hk⟩
  classical
  refine ⟨tabA ow.length fun v => if h : v < ow.length ∧ ow.getD v 0 = 0 ∧ ws.getD v 0 = 0 then ((Classical.choose (mem v h.1 h.2.1 h.2.2) : Nat) : Int) else 0, ?_, ?_⟩
  · refine mOk_of (by simp [digL, tabA_len]) fun u c n h1 h2 => ?_
    have hu : u < ow.length := by have := getSome_lt h1; rwa [tabA_len] at this
    unfold digL at h2
    rw [tabA_get hu] at h1 h2
    cases h1; cases h2
    split
    · rename_i h
      have := (Classical.choose_spec (mem u h.1 h.2.1 h.2.2)).1
      rw [if_neg (by rw [h.2.1]; decide)]
      omega
    · exact ⟨by decide, by omega⟩
  · intro v hv h1 h2
    rw [show ∀ (l : List Int), l.getD v 0 = (l[v]?).getD 0 from fun _ => rfl, tabA_get hv, Option.getD_some, dif_pos ⟨hv, h1, h2⟩, Int.toNat_natCast]
    exact (Classical.choose_spec (mem v hv h1 h2)).2
structure WJ (ow ws : List Int) (ns : List Nat) (tg : List Int) (win ch : List Int) : Prop where
  ok : mOk ns ch
  lw : win.length = ow.length
  w01 : ∀ v, v < ow.length → win[v]? = some 0 ∨ win[v]? = some 1
  snd : ∀ v, v < ow.length → win[v]? = some 0 → ws.getD v 0 = 0
  done : mr ns tg < mr ns ch → ∀ v, v < ow.length → ws.getD v 0 = 0 → win[v]? = some 0
end
end Go.Am.Ar
set_option linter.unusedVariables false
set_option linter.unusedSimpArgs false
set_option maxRecDepth 10000
namespace Go.Am.Ar
open Go.Am renaming pchk → P1, pold → P2, PKNo → P3, ppack → P4, PObj.under → P5, pput → P6, ptset → P7, ptget → P8, pev → P9, ofAV → P10, ofAV1 → P11, ppad → P12, pfill → P13, prepl → P14, AO.effect → P15
open List renaming replicate → L1
open Nat renaming reduceAdd → N1, reduceSub → N2, reduceMul → N3, reduceLT → N4, reduceLeDiff → N5, reduceEqDiff → N6, reduceBEq → N7
open Int renaming reduceToNat → I1, reduceLT → I2, reduceLE → I3, reduceEq → I4, reduceAdd → I5, reduceSub → I6, reduceNeg → I7
theorem pfrz_refC {n id g ver k : Nat} {M : Mem} {cs : List PV} (hi : n ≤ id) (hM : M[id]? = some (.cells g ver cs)) (hk : cs.length = k) (hu : underL n cs = true) : pfrz n M (.ref id g 1 0 k) = some (.sl false true 1 k cs) := by
  subst hk
  show pfrz1 n M (.ref id g 1 0 cs.length) = _
  rw [pfrz1_ref' hi hM (by simp) hu, Nat.mul_one, psub_all _ _ rfl]
section
variable {tab : FuncId → Option AF} (T : HasA tab)
include T
theorem count_p {M : Mem} {K : PV → Mem → Prop} {f1 o1 f2 o2 f3 o3 f4 o4 : Bool} {ow pr : List Int} {su : List (List Int)} {lim : Int} (B : Bnd ow pr su) (hs : su.length = ow.length) (hk : ∀ k : Int, K (p64 k) M) :
    SemC tab 16 [gmP f1 o1 f2 o2 f3 o3 f4 o4 ow pr su, p64 lim] M K := by
  refine SemC_pure T.h16 (by simp only [PP, P1, P2, P3, P4, P5, P6, P7, P8, P9, P10, P11, P12, P13, P14, L1, P15, N1, N2, N3, N4, N5, N6, N7, I1, I2, I3, I4, I5, I6, I7, reduceIte, reduceCtorEq]) ?_
  simp only [af16, PP, P1, P2, P3, P4, P5, P6, P7, P8, P9, P10, P11, P12, P13, P14, L1, P15, N1, N2, N3, N4, N5, N6, N7, I1, I2, I3, I4, I5, I6, I7, reduceIte, reduceCtorEq]
  have hn : ow.length < 1000000000000 := B.o
  refine loop2 (fun (k : Nat) (x : Int) => k ≤ ow.length) (fun k x => [.junk, p64 lim, .ptr 0 0 0, .junk, .junk, p64 x, p64 k, .junk, .junk, .junk, .junk, .junk, .junk, .junk, .junk, .junk, .junk, .junk, .junk, .junk, .junk, .junk, .junk, .junk, .junk, .junk, .junk, .junk, .junk, .junk, .junk, .junk, .junk, .junk])
    (fun k x => [.cells 0 0 [slI f1 o1 .u8 ow, slI f2 o2 .i64 pr, slR f3 o3 f4 o4 .i64 su]]) (fun k _ => ow.length - k) 0 1 (by omega) (by simp only [PWeak_nil, PWeak_junk, PWeak_same, Int.cast_ofNat_Int, List.length_append, List.length_cons, List.length_nil, Nat.zero_add]) rfl ?_
  intro k x hle ih
  refine SemW_go (by kernel_rfl) ?_
  simp only [PP, P1, P2, P3, P4, P5, P6, P7, P8, P9, P10, P11, P12, P13, P14, L1, P15, N1, N2, N3, N4, N5, N6, N7, I1, I2, I3, I4, I5, I6, I7, reduceIte, reduceCtorEq]
  refine QIf.intro (fun c => ?_) (fun c => ?_)
  · have hk' : k < ow.length := by omega
    have k0 : (0 : Int) ≤ k := by omega
    have kn : (k : Int) < ow.length := by omega
    have hwk := wrap_succ (k := k) (by show _ < 1000000000000; omega)
    obtain ⟨o, g1⟩ := some_of (xs := ow) (k := k) hk'
    obtain ⟨r, g4⟩ := some_of (xs := su) (k := k) (by omega)
    simp only [PP, P1, P2, P3, P4, P5, P6, P7, P8, P9, P10, P11, P12, P13, P14, L1, P15, N1, N2, N3, N4, N5, N6, N7, I1, I2, I3, I4, I5, I6, I7, reduceIte, reduceCtorEq, c]
    refine QIf.intro (fun d => ?_) (fun d => ?_)
    · simp only [PP, P1, P2, P3, P4, P5, P6, P7, P8, P9, P10, P11, P12, P13, P14, L1, P15, N1, N2, N3, N4, N5, N6, N7, I1, I2, I3, I4, I5, I6, I7, reduceIte, reduceCtorEq, d, c, k0, kn, g1]
      refine QIf.intro (fun e => ?_) (fun e => ?_)
      · simp only [PP, P1, P2, P3, P4, P5, P6, P7, P8, P9, P10, P11, P12, P13, P14, L1, P15, N1, N2, N3, N4, N5, N6, N7, I1, I2, I3, I4, I5, I6, I7, reduceIte, reduceCtorEq, e, k0, kn, g4, hs, hwk]
        exact SemW_weak (ih (k + 1) (IntKind.i64.wrap (x * r.length)) (by omega) (by omega)) (by simp only [PWeak_nil, PWeak_junk, PWeak_same, Int.cast_ofNat_Int, List.length_append, List.length_cons, List.length_nil, Nat.zero_add])
      · simp only [PP, P1, P2, P3, P4, P5, P6, P7, P8, P9, P10, P11, P12, P13, P14, L1, P15, N1, N2, N3, N4, N5, N6, N7, I1, I2, I3, I4, I5, I6, I7, reduceIte, reduceCtorEq, e, hwk]
        exact SemW_weak (ih (k + 1) x (by omega) (by omega)) (by simp only [PWeak_nil, PWeak_junk, PWeak_same, Int.cast_ofNat_Int, List.length_append, List.length_cons, List.length_nil, Nat.zero_add])
    · simp only [PP, P1, P2, P3, P4, P5, P6, P7, P8, P9, P10, P11, P12, P13, P14, L1, P15, N1, N2, N3, N4, N5, N6, N7, I1, I2, I3, I4, I5, I6, I7, reduceIte, reduceCtorEq, d]
      exact hk x
  · simp only [PP, P1, P2, P3, P4, P5, P6, P7, P8, P9, P10, P11, P12, P13, P14, L1, P15, N1, N2, N3, N4, N5, N6, N7, I1, I2, I3, I4, I5, I6, I7, reduceIte, reduceCtorEq, c]
    exact hk x
theorem moves_r {K : PV → Mem → Prop} {f1 o1 f2 o2 f3 o3 f4 o4 : Bool} {ow pr st : List Int} {su : List (List Int)} {p : Int} {v2 : Nat} {m0 m1 m3 : PObj} (B : Bnd ow pr su) (hs : su.length = ow.length) (ht : st.length = ow.length)
    (h0 : cutOk 4 m0 = true) (h1 : cutOk 4 m1 = true) (h3 : cutOk 4 m3 = true)
    (hk : K (slR false true true false .i64 (tabA ow.length (movF ow su p st))) [m0, m1, .cells 0 v2 (st.map (PV.int .i64)), m3]) :
    SemC tab 39 [gmP f1 o1 f2 o2 f3 o3 f4 o4 ow pr su, p8 p, .ref 2 0 1 0 ow.length] [m0, m1, .cells 0 v2 (st.map (PV.int .i64)), m3] K := by
  refine SemC_wk ?_
  refine SemC_res ?_
  refine SemC_fn T.h39 ?_
  simp only [af39, PP, P1, P2, P3, P4, P5, P6, P7, P8, P9, P10, P11, P12, P13, P14, L1, P15, N1, N2, N3, N4, N5, N6, N7, I1, I2, I3, I4, I5, I6, I7, reduceIte, reduceCtorEq]
  have hn : ow.length < 1000000000000 := B.o
  refine SemW_re (GStep.nil 7 1 rfl rfl rfl) ?_
  refine loop4 (fun (k g v : Nat) (cs : List PV) => k ≤ ow.length ∧ RwWk cs (tabA k (movF ow su p st)))
    (fun k g v cs => [.junk, p8 p, .ref 2 0 1 0 ow.length, .ptr 4 0 0, .junk, .junk, .junk, .ref 5 g 1 0 k, p64 k, .junk, .junk, .junk, .junk, .junk, .junk, .junk, .junk, .junk, .junk, .junk, .junk, .junk, .junk, .junk, .junk, .junk, .junk, .junk, .junk, .junk, .junk, .junk, .junk, .junk, .junk, .junk, .junk, .junk, .junk, .junk, .junk, .junk, .junk, .junk, .junk, .junk, .junk, .junk, .junk, .junk, .junk, .junk])
    (fun k g v cs => [m0, m1, .cells 0 v2 (st.map (PV.int .i64)), m3, .cells 0 0 [slI f1 o1 .u8 ow, slI f2 o2 .i64 pr, slR f3 o3 f4 o4 .i64 su], .cells g v cs])
    (fun k _ _ _ => ow.length - k) 0 0 0 [] ⟨by omega, trivial⟩ (by simp only [PP, P1, P2, P3, P4, P5, P6, P7, P8, P9, P10, P11, P12, P13, P14, L1, P15, N1, N2, N3, N4, N5, N6, N7, I1, I2, I3, I4, I5, I6, I7, reduceIte, reduceCtorEq, PWeak_nil, PWeak_junk, PWeak_same, Int.cast_ofNat_Int]) (by simp only [PP, P1, P2, P3, P4, P5, P6, P7, P8, P9, P10, P11, P12, P13, P14, L1, P15, N1, N2, N3, N4, N5, N6, N7, I1, I2, I3, I4, I5, I6, I7, reduceIte, reduceCtorEq]) ?_
  intro k g v cs ⟨hle, hc⟩ ih
  have lc : cs.length = k := by rw [hc.len, tabA_len]
  refine SemW_go (by kernel_rfl) ?_
  simp only [PP, P1, P2, P3, P4, P5, P6, P7, P8, P9, P10, P11, P12, P13, P14, L1, P15, N1, N2, N3, N4, N5, N6, N7, I1, I2, I3, I4, I5, I6, I7, reduceIte, reduceCtorEq]
  refine QIf.intro (fun c => ?_) (fun c => ?_)
  · have hk' : k < ow.length := by omega
    have k0 : (0 : Int) ≤ k := by omega
    have kn : (k : Int) < ow.length := by omega
    have hwk := wrap_succ (k := k) (by show _ < 1000000000000; omega)
    obtain ⟨o, g1⟩ := some_of (xs := ow) (k := k) hk'
    obtain ⟨x, g2⟩ := some_of (xs := st) (k := k) (by omega)
    obtain ⟨r, g3⟩ := some_of (xs := su) (k := k) (by omega)
    have e1 : ow.getD k 0 = o := getD_some g1
    have e2 : st.getD k 0 = x := getD_some g2
    have e3 : su.getD k [] = r := by simp [List.getD, g3]
    have ef : movF ow su p st k = if o = p ∧ x ∈ r then [x] else r := by unfold movF; rw [e1, e2, e3]
    have hps : psub cs 0 k = cs := psub_all _ _ (by omega)
    have c24 : (k + 1) * 24 ≤ 140737488355328 := by omega
    have c1 : k + 1 ≤ 9223372036854775807 := by omega
    have ho := hc.one
    have hex : k ≤ cs.length := by omega
    have step : ∀ (f o' : Bool) (y : List Int), movF ow su p st k = y → RwWk (cs ++ [slI f o' .i64 y]) (tabA (k + 1) (movF ow su p st)) := fun f o' y hy => by
      rw [tabA_succ, hy]; exact hc.app f o' y
    simp only [PP, P1, P2, P3, P4, P5, P6, P7, P8, P9, P10, P11, P12, P13, P14, L1, P15, N1, N2, N3, N4, N5, N6, N7, I1, I2, I3, I4, I5, I6, I7, reduceIte, reduceCtorEq, c, k0, kn, g1]
    refine QIf.intro (fun d => ?_) (fun d => ?_)
    · simp only [PP, P1, P2, P3, P4, P5, P6, P7, P8, P9, P10, P11, P12, P13, P14, L1, P15, N1, N2, N3, N4, N5, N6, N7, I1, I2, I3, I4, I5, I6, I7, reduceIte, reduceCtorEq, d, k0, kn, g2, g3, hs, ht]
      refine hasInt_p T (B.r r (List.mem_of_getElem? g3)) ?_
      by_cases q : x ∈ r
      · simp only [PP, P1, P2, P3, P4, P5, P6, P7, P8, P9, P10, P11, P12, P13, P14, L1, P15, N1, N2, N3, N4, N5, N6, N7, I1, I2, I3, I4, I5, I6, I7, reduceIte, reduceCtorEq, q, k0, kn, g2, ht, hps, c24, c1, ho, hwk, hex]
        rw [if_pos ⟨d, q⟩] at ef
        refine SemW_to (ih (k + 1) (g + 1) 0 (cs ++ [slI true true .i64 [x]]) ⟨by omega, step true true [x] ef⟩ (by omega)) (by simp only [PWeak_nil, PWeak_junk, PWeak_same, Int.cast_ofNat_Int, List.length_append, List.length_cons, List.length_nil, Nat.zero_add]) rfl
      · simp only [PP, P1, P2, P3, P4, P5, P6, P7, P8, P9, P10, P11, P12, P13, P14, L1, P15, N1, N2, N3, N4, N5, N6, N7, I1, I2, I3, I4, I5, I6, I7, reduceIte, reduceCtorEq, q, k0, kn, g3, hs, hps, c24, c1, ho, hwk, hex]
        rw [if_neg (fun h => q h.2)] at ef
        refine SemW_to (ih (k + 1) (g + 1) 0 (cs ++ [slI f4 o4 .i64 r]) ⟨by omega, step f4 o4 r ef⟩ (by omega)) (by simp only [PWeak_nil, PWeak_junk, PWeak_same, Int.cast_ofNat_Int, List.length_append, List.length_cons, List.length_nil, Nat.zero_add]) rfl
    · simp only [PP, P1, P2, P3, P4, P5, P6, P7, P8, P9, P10, P11, P12, P13, P14, L1, P15, N1, N2, N3, N4, N5, N6, N7, I1, I2, I3, I4, I5, I6, I7, reduceIte, reduceCtorEq, d, k0, kn, g3, hs, hps, c24, c1, ho, hwk, hex]
      rw [if_neg (fun h => d h.1)] at ef
      refine SemW_to (ih (k + 1) (g + 1) 0 (cs ++ [slI f4 o4 .i64 r]) ⟨by omega, step f4 o4 r ef⟩ (by omega)) (by simp only [PWeak_nil, PWeak_junk, PWeak_same, Int.cast_ofNat_Int, List.length_append, List.length_cons, List.length_nil, Nat.zero_add]) rfl
  · have hkn : k = ow.length := by omega
    subst hkn
    simp only [PP, P1, P2, P3, P4, P5, P6, P7, P8, P9, P10, P11, P12, P13, P14, L1, P15, N1, N2, N3, N4, N5, N6, N7, I1, I2, I3, I4, I5, I6, I7, reduceIte, reduceCtorEq, c]
    refine ⟨_, [m0, m1, .cells 0 v2 (st.map (PV.int .i64)), m3], pfrz_refC (by decide) rfl lc (hc.und 4), ?_, _, ?_, hk⟩
    · refine pfrzM_all ?_
      simp only [List.take_succ_cons, List.take_zero, List.all_cons, List.all_nil, h0, h1, h3, cutOk_cells, underL_ints, Bool.and_self]
    · have := PvWk.cells (f := false) (o := true) (sz := 1) (n := ow.length) (cs := cs) (cs' := (tabA ow.length (movF ow su p st)).map (slI true false .i64)) (by simp [lc, tabA_len]) hc.get
      simp only [slR, tabA_len]
      exact this
set_option maxHeartbeats 1000000 in
theorem winners_p {M : Mem} {K : PV → Mem → Prop} {f1 o1 f2 o2 f3 o3 f4 o4 : Bool} {ow pr ws ss : List Int} {su : List (List Int)} (B : Bnd ow pr su) (V : Valid ow pr su) (ho : ∀ x ∈ ow, 0 ≤ x) (L : SolL ow pr su ws ss)
    (hk : K (slI false true .u8 ws) M) :
    SemC tab 18 [gmP f1 o1 f2 o2 f3 o3 f4 o4 ow pr su] M K := by
  obtain ⟨tg, htg, htgt⟩ := tgt_ex V ho L
  have n0 := V.n0
  have n1 := V.n1
  have hs := V.s
  have hp := V.p
  have lw := L.lw
  have b0 : (0 : Int) ≤ ow.length := by omega
  have b1 : (ow.length : Int) * 1 ≤ 140737488355328 := by omega
  have b8 : (ow.length : Int) * 8 ≤ 140737488355328 := by omega
  have b2 : (ow.length : Int) ≤ 9223372036854775807 := by omega
  have hO := valid_O V ho
  have ld : (digL ow su).length = ow.length := tabA_len _ _
  have gd : ∀ v, v < ow.length → (digL ow su)[v]? = some (if ow.getD v 0 = 1 then 0 else (su.getD v []).length - 1) := fun v hv => tabA_get hv
  refine SemC_pure T.h18 (by simp only [PP, P1, P2, P3, P4, P5, P6, P7, P8, P9, P10, P11, P12, P13, P14, L1, P15, N1, N2, N3, N4, N5, N6, N7, I1, I2, I3, I4, I5, I6, I7, reduceIte, reduceCtorEq]) ?_
  simp only [af18, PP, P1, P2, P3, P4, P5, P6, P7, P8, P9, P10, P11, P12, P13, P14, L1, P15, N1, N2, N3, N4, N5, N6, N7, I1, I2, I3, I4, I5, I6, I7, reduceIte, reduceCtorEq, b0, b1, b8, b2, Int.le_refl]
  refine loop3 (fun (k ver : Nat) (w : List Int) => k ≤ ow.length ∧ w.length = ow.length ∧ ∀ v, v < k → w[v]? = some 1)
    (fun k ver w => [.junk, .ptr 0 0 0, .junk, p64 ow.length, .ref 1 0 1 0 ow.length, .ref 2 0 1 0 ow.length, .ref 3 0 1 0 ow.length, p64 k, .junk, .junk, .junk, .junk, .junk, .junk, .junk, .junk, .junk, .junk, .junk, .junk, .junk, .junk, .junk, .junk, .junk, .junk, .junk, .junk, .junk, .junk, .junk, .junk, .junk, .junk, .junk, .junk, .junk, .junk, .junk, .junk, .junk, .junk, .junk, .junk, .junk, .junk, .junk, .junk, .junk, .junk, .junk, .junk, .junk, .junk, .junk, .junk, .junk, .junk, .junk, .junk, .junk, .junk, .junk, .junk, .junk, .junk, .junk, .junk, .junk, .junk, .junk, .junk, .junk, .junk, .junk, .junk, .junk, .junk, .junk, .junk, .junk, .junk, .junk, .junk, .junk, .junk, .junk, .junk, .junk, .junk, .junk, .junk, .junk, .junk, .junk, .junk, .junk, .junk, .junk, .junk, .junk, .junk, .junk, .junk, .junk, .junk])
    (fun k ver w => [.cells 0 0 [slI f1 o1 .u8 ow, slI f2 o2 .i64 pr, slR f3 o3 f4 o4 .i64 su], .cells 0 ver (w.map (PV.int .u8)), .cells 0 0 ((List.replicate ow.length 0).map (PV.int .i64)), .cells 0 0 ((List.replicate ow.length 0).map (PV.int .i64))])
    (fun k _ _ => ow.length - k) 0 0 (List.replicate ow.length 0) ⟨by omega, by simp, by intro v h; omega⟩ (by simp only [PWeak_nil, PWeak_junk, PWeak_same, Int.cast_ofNat_Int, List.length_append, List.length_cons, List.length_nil, Nat.zero_add]) (by simp only [List.map_replicate]) ?_
  intro k ver w ⟨hle, hw, hget⟩ ih
  refine SemW_go (by kernel_rfl) ?_
  simp only [PP, P1, P2, P3, P4, P5, P6, P7, P8, P9, P10, P11, P12, P13, P14, L1, P15, N1, N2, N3, N4, N5, N6, N7, I1, I2, I3, I4, I5, I6, I7, reduceIte, reduceCtorEq]
  refine QIf.intro (fun c => ?_) (fun c => ?_)
  · have hk' : k < ow.length := by omega
    have k0 : (0 : Int) ≤ k := by omega
    have k1 : k + 1 ≤ ow.length := hk'
    have hwk := wrap_succ (k := k) (by show _ < 1000000000000; omega)
    simp only [PP, P1, P2, P3, P4, P5, P6, P7, P8, P9, P10, P11, P12, P13, P14, L1, P15, N1, N2, N3, N4, N5, N6, N7, I1, I2, I3, I4, I5, I6, I7, reduceIte, reduceCtorEq, c, k0, k1, hw, hwk]
    refine SemW_to (ih (k + 1) (ver + 1) (w.set k 1) ⟨by omega, by simp [hw], fun v hv => ?_⟩ (by omega)) (by simp only [PWeak_nil, PWeak_junk, PWeak_same, Int.cast_ofNat_Int, List.length_append, List.length_cons, List.length_nil, Nat.zero_add]) (by simp only [← List.map_set])
    by_cases e : v = k
    · subst e; rw [List.getElem?_set_self (by omega)]
    · rw [List.getElem?_set_ne (by omega)]; exact hget v (by omega)
  have hkn : k = ow.length := by omega
  subst hkn
  simp only [PP, P1, P2, P3, P4, P5, P6, P7, P8, P9, P10, P11, P12, P13, P14, L1, P15, N1, N2, N3, N4, N5, N6, N7, I1, I2, I3, I4, I5, I6, I7, reduceIte, reduceCtorEq, c]
  have hj0 : WJ ow ws (digL ow su) tg w (List.replicate ow.length 0) := ⟨by rw [← ld]; exact mOk_rep _, hw, fun v hv => .inr (hget v hv), fun v hv h => (by rw [hget v hv] at h; cases h), fun h => (by rw [mr_rep] at h; omega)⟩
  refine loop6 (fun (v1 v2 v3 : Nat) (win st ch : List Int) => WJ ow ws (digL ow su) tg win ch ∧ st.length = ow.length)
    (fun v1 v2 v3 win st ch => [.junk, .ptr 0 0 0, .junk, p64 ow.length, .ref 1 0 1 0 ow.length, .ref 2 0 1 0 ow.length, .ref 3 0 1 0 ow.length, .junk, .junk, .junk, .junk, .junk, .junk, .junk, .junk, .junk, .junk, .junk, .junk, .junk, .junk, .junk, .junk, .junk, .junk, .junk, .junk, .junk, .junk, .junk, .junk, .junk, .junk, .junk, .junk, .junk, .junk, .junk, .junk, .junk, .junk, .junk, .junk, .junk, .junk, .junk, .junk, .junk, .junk, .junk, .junk, .junk, .junk, .junk, .junk, .junk, .junk, .junk, .junk, .junk, .junk, .junk, .junk, .junk, .junk, .junk, .junk, .junk, .junk, .junk, .junk, .junk, .junk, .junk, .junk, .junk, .junk, .junk, .junk, .junk, .junk, .junk, .junk, .junk, .junk, .junk, .junk, .junk, .junk, .junk, .junk, .junk, .junk, .junk, .junk, .junk, .junk, .junk, .junk, .junk, .junk, .junk, .junk, .junk, .junk, .junk])
    (fun v1 v2 v3 win st ch => [.cells 0 0 [slI f1 o1 .u8 ow, slI f2 o2 .i64 pr, slR f3 o3 f4 o4 .i64 su], .cells 0 v1 (win.map (PV.int .u8)), .cells 0 v2 (st.map (PV.int .i64)), .cells 0 v3 (ch.map (PV.int .i64))])
    (fun _ _ _ _ _ ch => mT (digL ow su) - mr (digL ow su) ch) ver 0 0 w (List.replicate ow.length 0) (List.replicate ow.length 0) ⟨hj0, by simp⟩ (by simp only [PWeak_nil, PWeak_junk, PWeak_same, Int.cast_ofNat_Int, List.length_append, List.length_cons, List.length_nil, Nat.zero_add]) rfl ?_
  clear ih
  intro v1 v2 v3 win st ch ⟨J, lst⟩ ih
  have lch : ch.length = ow.length := by rw [mOk_len J.ok, ld]
  have chr : ∀ v, v < ow.length → ∃ c, ch[v]? = some c ∧ 0 ≤ c ∧ c < (su.getD v []).length ∧ (ow.getD v 0 = 1 → c = 0) ∧ (ow.getD v 0 = 0 → (c + 1 = (su.getD v []).length ↔ ∀ n, (digL ow su)[v]? = some n → c = n)) ∧ (∀ n, (digL ow su)[v]? = some n → c ≤ n) := fun v hv => by
    obtain ⟨c, gc⟩ := some_of (xs := ch) (k := v) (by omega)
    have h := mOk_get J.ok gc (gd v hv)
    have hne := (valid_S V v hv).1
    have hl : 0 < (su.getD v []).length := by
      cases e : su.getD v [] with
      | nil => exact absurd (by unfold Sf; rw [e]; rfl) hne
      | cons x l => simp
    refine ⟨c, gc, h.1, ?_, fun e => ?_, fun e => ?_, fun n hn => ?_⟩
    · have := h.2
      split at this <;> omega
    · have := h.2
      rw [if_pos e] at this; omega
    · rw [gd v hv, if_neg (by omega)]
      constructor
      · intro q n hn; cases hn; omega
      · intro q; have := q _ rfl; omega
    · rw [gd v hv] at hn; cases hn; exact h.2
  refine SemW_go (by kernel_rfl) ?_
  simp only [PP, P1, P2, P3, P4, P5, P6, P7, P8, P9, P10, P11, P12, P13, P14, L1, P15, N1, N2, N3, N4, N5, N6, N7, I1, I2, I3, I4, I5, I6, I7, reduceIte, reduceCtorEq]
  refine loop3 (fun (k vr : Nat) (a : List Int) => k ≤ ow.length ∧ a.length = ow.length ∧ ∀ v, v < k → a[v]? = (su.getD v [])[(ch.getD v 0).toNat]?)
    (fun k vr a => [.junk, .ptr 0 0 0, .junk, p64 ow.length, .ref 1 0 1 0 ow.length, .ref 2 0 1 0 ow.length, .ref 3 0 1 0 ow.length, .junk, p64 k, .junk, .junk, .junk, .junk, .junk, .junk, .junk, .junk, .junk, .junk, .junk, .junk, .junk, .junk, .junk, .junk, .junk, .junk, .junk, .junk, .junk, .junk, .junk, .junk, .junk, .junk, .junk, .junk, .junk, .junk, .junk, .junk, .junk, .junk, .junk, .junk, .junk, .junk, .junk, .junk, .junk, .junk, .junk, .junk, .junk, .junk, .junk, .junk, .junk, .junk, .junk, .junk, .junk, .junk, .junk, .junk, .junk, .junk, .junk, .junk, .junk, .junk, .junk, .junk, .junk, .junk, .junk, .junk, .junk, .junk, .junk, .junk, .junk, .junk, .junk, .junk, .junk, .junk, .junk, .junk, .junk, .junk, .junk, .junk, .junk, .junk, .junk, .junk, .junk, .junk, .junk, .junk, .junk, .junk, .junk, .junk, .junk])
    (fun k vr a => [.cells 0 0 [slI f1 o1 .u8 ow, slI f2 o2 .i64 pr, slR f3 o3 f4 o4 .i64 su], .cells 0 v1 (win.map (PV.int .u8)), .cells 0 vr (a.map (PV.int .i64)), .cells 0 v3 (ch.map (PV.int .i64))])
    (fun k _ _ => ow.length - k) 0 v2 st ⟨by omega, lst, by intro v h; omega⟩ (by simp only [PWeak_nil, PWeak_junk, PWeak_same, Int.cast_ofNat_Int, List.length_append, List.length_cons, List.length_nil, Nat.zero_add]) rfl ?_
  intro k vr a ⟨hle2, la, hga⟩ ih2
  refine SemW_go (by kernel_rfl) ?_
  simp only [PP, P1, P2, P3, P4, P5, P6, P7, P8, P9, P10, P11, P12, P13, P14, L1, P15, N1, N2, N3, N4, N5, N6, N7, I1, I2, I3, I4, I5, I6, I7, reduceIte, reduceCtorEq]
  refine QIf.intro (fun d => ?_) (fun d => ?_)
  · have hk' : k < ow.length := by omega
    have k0 : (0 : Int) ≤ k := by omega
    have kn : (k : Int) < ow.length := by omega
    have k1 : k + 1 ≤ ow.length := hk'
    have hwk := wrap_succ (k := k) (by show _ < 1000000000000; omega)
    obtain ⟨c, gc, c0, cl, _⟩ := chr k hk'
    obtain ⟨r, g4⟩ := some_of (xs := su) (k := k) (by omega)
    have e4 : su.getD k [] = r := by simp [List.getD, g4]
    rw [e4] at cl
    obtain ⟨x, gx⟩ := some_of (xs := r) (k := c.toNat) (by omega)
    simp only [PP, P1, P2, P3, P4, P5, P6, P7, P8, P9, P10, P11, P12, P13, P14, L1, P15, N1, N2, N3, N4, N5, N6, N7, I1, I2, I3, I4, I5, I6, I7, reduceIte, reduceCtorEq, d, k0, kn, k1, g4, gc, c0, cl, gx, hs, la, lch, hwk]
    refine SemW_to (ih2 (k + 1) (vr + 1) (a.set k x) ⟨by omega, by simp [la], fun u hu => ?_⟩ (by omega)) (by simp only [PWeak_nil, PWeak_junk, PWeak_same, Int.cast_ofNat_Int, List.length_append, List.length_cons, List.length_nil, Nat.zero_add]) (by simp only [← List.map_set])
    by_cases e : u = k
    · subst e; rw [List.getElem?_set_self (by omega), e4, getD_some gc, gx]
    · rw [List.getElem?_set_ne (by omega)]; exact hga u (by omega)
  have hkn : k = ow.length := by omega
  subst hkn
  simp only [PP, P1, P2, P3, P4, P5, P6, P7, P8, P9, P10, P11, P12, P13, P14, L1, P15, N1, N2, N3, N4, N5, N6, N7, I1, I2, I3, I4, I5, I6, I7, reduceIte, reduceCtorEq, d]
  refine moves_r T B hs la (by simp only [PP, P1, P2, P3, P4, P5, P6, P7, P8, P9, P10, P11, P12, P13, P14, L1, P15, N1, N2, N3, N4, N5, N6, N7, I1, I2, I3, I4, I5, I6, I7, reduceIte, reduceCtorEq, cutOk, slI, slR]) (by simp only [cutOk, underL_ints]) (by simp only [cutOk, underL_ints]) ?_
  simp only [PP, P1, P2, P3, P4, P5, P6, P7, P8, P9, P10, P11, P12, P13, P14, L1, P15, N1, N2, N3, N4, N5, N6, N7, I1, I2, I3, I4, I5, I6, I7, reduceIte, reduceCtorEq]
  refine loses_p T (mov_in V B) (tabA_len _ _) hp (by omega) (by omega) (fun x hx => (V.pri0 x hx).1) (fun l hl hlost => ?_)
  simp only [PP, P1, P2, P3, P4, P5, P6, P7, P8, P9, P10, P11, P12, P13, P14, L1, P15, N1, N2, N3, N4, N5, N6, N7, I1, I2, I3, I4, I5, I6, I7, reduceIte, reduceCtorEq]
  have hmem : ∀ v, v < ow.length → a.getD v 0 ∈ su.getD v [] ∧ a[v]? = some (a.getD v 0) := fun v hv => by
    obtain ⟨c, gc, c0, cl, _⟩ := chr v hv
    obtain ⟨x, gx⟩ := some_of (xs := su.getD v []) (k := c.toNat) (by omega)
    have h := hga v hv
    rw [getD_some gc, gx] at h
    rw [getD_some h]
    exact ⟨List.mem_of_getElem? gx, h⟩
  have hsnd : ∀ v, v < ow.length → ¬ bm l v → ws.getD v 0 = 0 := fun v hv h => win_sound V ho L (st := a) (fun u hu _ => (hmem u hu).1) hv (fun q => h ((hlost v hv).2 q))
  have hdn : tg = ch → ∀ v, v < ow.length → ws.getD v 0 = 0 → ¬ bm l v := fun e v hv hw h => by
    subst e
    refine win_done V ho L (st := a) (fun u hu _ => (hmem u hu).1) (fun u hu h1 h2 => ?_) hv hw ((hlost v hv).1 h)
    have := hga u hu
    rw [htgt u hu h1 h2] at this
    exact getD_some this
  refine loop3 (fun (k vr : Nat) (w : List Int) => k ≤ ow.length ∧ w.length = ow.length ∧ (∀ v, v < k → w[v]? = if bm l v then win[v]? else some 0) ∧ ∀ v, k ≤ v → v < ow.length → w[v]? = win[v]?)
    (fun k v9 w => [.junk, .ptr 0 0 0, .junk, p64 ow.length, .ref 1 0 1 0 ow.length, .ref 2 0 1 0 ow.length, .ref 3 0 1 0 ow.length, .junk, .junk, slB false true l, p64 k, .junk, .junk, .junk, .junk, .junk, .junk, .junk, .junk, .junk, .junk, .junk, .junk, .junk, .junk, .junk, .junk, .junk, .junk, .junk, .junk, .junk, .junk, .junk, .junk, .junk, .junk, .junk, .junk, .junk, .junk, .junk, .junk, .junk, .junk, .junk, .junk, .junk, .junk, .junk, .junk, .junk, .junk, .junk, .junk, .junk, .junk, .junk, .junk, .junk, .junk, .junk, .junk, .junk, .junk, .junk, .junk, .junk, .junk, .junk, .junk, .junk, .junk, .junk, .junk, .junk, .junk, .junk, .junk, .junk, .junk, .junk, .junk, .junk, .junk, .junk, .junk, .junk, .junk, .junk, .junk, .junk, .junk, .junk, .junk, .junk, .junk, .junk, .junk, .junk, .junk, .junk, .junk, .junk, .junk, .junk])
    (fun k v9 w => [.cells 0 0 [slI f1 o1 .u8 ow, slI f2 o2 .i64 pr, slR f3 o3 f4 o4 .i64 su], .cells 0 v9 (w.map (PV.int .u8)), .cells 0 vr (a.map (PV.int .i64)), .cells 0 v3 (ch.map (PV.int .i64))])
    (fun k _ _ => ow.length - k) 0 v1 win ⟨by omega, J.lw, fun v h => by omega, fun v _ h => rfl⟩ (by simp only [PWeak_nil, PWeak_junk, PWeak_same, Int.cast_ofNat_Int, List.length_append, List.length_cons, List.length_nil, Nat.zero_add]) rfl ?_
  clear ih2
  intro k v9 w2 ⟨hle3, lw2, hlo, hhi⟩ ih3
  refine SemW_go (by kernel_rfl) ?_
  simp only [PP, P1, P2, P3, P4, P5, P6, P7, P8, P9, P10, P11, P12, P13, P14, L1, P15, N1, N2, N3, N4, N5, N6, N7, I1, I2, I3, I4, I5, I6, I7, reduceIte, reduceCtorEq]
  refine QIf.intro (fun x => ?_) (fun x => ?_)
  · have hk' : k < ow.length := by omega
    have k0 : (0 : Int) ≤ k := by omega
    have kn : (k : Int) < ow.length := by omega
    have k1 : k + 1 ≤ ow.length := hk'
    have hwk := wrap_succ (k := k) (by show _ < 1000000000000; omega)
    obtain ⟨y, gy⟩ := some_of (xs := l) (k := k) (by omega)
    have ey := bm_of gy
    have low : ∀ (w' : List Int), w'.length = ow.length → (w'[k]? = if bm l k then win[k]? else some 0) → (∀ v, v ≠ k → w'[v]? = w2[v]?) → k + 1 ≤ ow.length ∧ w'.length = ow.length ∧ (∀ v, v < k + 1 → w'[v]? = if bm l v then win[v]? else some 0) ∧ ∀ v, k + 1 ≤ v → v < ow.length → w'[v]? = win[v]? := fun w' h1 h2 h3 => ⟨hk', h1, fun v hv => by
      by_cases e : v = k
      · subst e; exact h2
      · rw [h3 v e]; exact hlo v (by omega), fun v h4 h5 => by rw [h3 v (by omega)]; exact hhi v (by omega) h5⟩
    cases y with
    | true =>
      simp only [PP, P1, P2, P3, P4, P5, P6, P7, P8, P9, P10, P11, P12, P13, P14, L1, P15, N1, N2, N3, N4, N5, N6, N7, I1, I2, I3, I4, I5, I6, I7, reduceIte, reduceCtorEq, x, k0, kn, gy, hl, hwk]
      exact SemW_weak (ih3 (k + 1) v9 w2 (low w2 lw2 (by rw [if_pos (ey.2 rfl)]; exact hhi k (Nat.le_refl _) hk') fun _ _ => rfl) (by omega)) (by simp only [PWeak_nil, PWeak_junk, PWeak_same, Int.cast_ofNat_Int, List.length_append, List.length_cons, List.length_nil, Nat.zero_add])
    | false =>
      simp only [PP, P1, P2, P3, P4, P5, P6, P7, P8, P9, P10, P11, P12, P13, P14, L1, P15, N1, N2, N3, N4, N5, N6, N7, I1, I2, I3, I4, I5, I6, I7, reduceIte, reduceCtorEq, x, k0, kn, k1, gy, hl, lw2, hwk]
      refine SemW_to (ih3 (k + 1) (v9 + 1) (w2.set k 0) (low _ (by simp [lw2]) ?_ fun v hv => List.getElem?_set_ne (by omega)) (by omega)) (by simp only [PWeak_nil, PWeak_junk, PWeak_same, Int.cast_ofNat_Int, List.length_append, List.length_cons, List.length_nil, Nat.zero_add]) (by simp only [← List.map_set])
      rw [List.getElem?_set_self (by omega), if_neg]
      intro h; have := ey.1 h; cases this
  have hkn : k = ow.length := by omega
  subst hkn
  clear ih3 hhi
  simp only [PP, P1, P2, P3, P4, P5, P6, P7, P8, P9, P10, P11, P12, P13, P14, L1, P15, N1, N2, N3, N4, N5, N6, N7, I1, I2, I3, I4, I5, I6, I7, reduceIte, reduceCtorEq, x]
  have J2s : ∀ v, v < ow.length → w2[v]? = some 0 → ws.getD v 0 = 0 := fun v hv h => by
    rw [hlo v hv] at h
    split at h
    · exact J.snd v hv h
    · rename_i q; exact hsnd v hv q
  have J2w : ∀ v, v < ow.length → w2[v]? = some 0 ∨ w2[v]? = some 1 := fun v hv => by
    rw [hlo v hv]
    split
    · exact J.w01 v hv
    · exact .inl rfl
  have J2d : mr (digL ow su) tg ≤ mr (digL ow su) ch → ∀ v, v < ow.length → ws.getD v 0 = 0 → w2[v]? = some 0 := fun h v hv hw => by
    rw [hlo v hv]
    by_cases e : mr (digL ow su) tg = mr (digL ow su) ch
    · rw [if_neg (hdn (mr_inj htg J.ok e) v hv hw)]
    · rw [J.done (by omega) v hv hw]; split <;> rfl
  have chg : ∀ j, j < ow.length → (List.replicate j (0 : Int) ++ ch.drop j)[j]? = ch[j]? := fun j hj => by
    rw [List.getElem?_append_right (by simp), List.length_replicate, Nat.sub_self, List.getElem?_drop, Nat.add_zero]
  have chs : ∀ (j : Nat) (y : Int), j < ow.length → (List.replicate j (0 : Int) ++ ch.drop j).set j y = List.replicate j 0 ++ y :: ch.drop (j + 1) := fun j y hj => by
    rw [List.set_append_right _ _ (by simp), List.length_replicate, Nat.sub_self, List.drop_eq_getElem_cons (by omega), List.set_cons_zero]
  have chl : ∀ j, j ≤ ow.length → (List.replicate j (0 : Int) ++ ch.drop j).length = ow.length := fun j hj => by simp; omega
  have rep1 : ∀ j, List.replicate j (0 : Int) ++ 0 :: ch.drop (j + 1) = List.replicate (j + 1) 0 ++ ch.drop (j + 1) := fun j => by
    rw [List.replicate_succ', List.append_assoc]; rfl
  refine loop3 (fun (j vj : Nat) (cc : List Int) => cc = List.replicate j 0 ++ ch.drop j ∧ j ≤ ow.length ∧ ∀ (u : Nat) (c : Int) (n : Nat), u < j → ch[u]? = some c → (digL ow su)[u]? = some n → c = n)
    (fun j vj cc => [.junk, .ptr 0 0 0, .junk, p64 ow.length, .ref 1 0 1 0 ow.length, .ref 2 0 1 0 ow.length, .ref 3 0 1 0 ow.length, .junk, .junk, .junk, .junk, p64 j, .junk, .junk, .junk, .junk, .junk, .junk, .junk, .junk, .junk, .junk, .junk, .junk, .junk, .junk, .junk, .junk, .junk, .junk, .junk, .junk, .junk, .junk, .junk, .junk, .junk, .junk, .junk, .junk, .junk, .junk, .junk, .junk, .junk, .junk, .junk, .junk, .junk, .junk, .junk, .junk, .junk, .junk, .junk, .junk, .junk, .junk, .junk, .junk, .junk, .junk, .junk, .junk, .junk, .junk, .junk, .junk, .junk, .junk, .junk, .junk, .junk, .junk, .junk, .junk, .junk, .junk, .junk, .junk, .junk, .junk, .junk, .junk, .junk, .junk, .junk, .junk, .junk, .junk, .junk, .junk, .junk, .junk, .junk, .junk, .junk, .junk, .junk, .junk, .junk, .junk, .junk, .junk, .junk, .junk])
    (fun j vj cc => [.cells 0 0 [slI f1 o1 .u8 ow, slI f2 o2 .i64 pr, slR f3 o3 f4 o4 .i64 su], .cells 0 v9 (w2.map (PV.int .u8)), .cells 0 vr (a.map (PV.int .i64)), .cells 0 vj (cc.map (PV.int .i64))])
    (fun j _ _ => ow.length - j) 0 v3 ch ⟨by simp, by omega, fun u c n h => by omega⟩ (by simp only [PWeak_nil, PWeak_junk, PWeak_same, Int.cast_ofNat_Int, List.length_append, List.length_cons, List.length_nil, Nat.zero_add]) rfl ?_
  intro j vj cc ⟨hcc, hle4, hmax⟩ ih4
  have lcc : cc.length = ow.length := by rw [hcc]; exact chl j hle4
  refine SemW_go (by kernel_rfl) ?_
  simp only [PP, P1, P2, P3, P4, P5, P6, P7, P8, P9, P10, P11, P12, P13, P14, L1, P15, N1, N2, N3, N4, N5, N6, N7, I1, I2, I3, I4, I5, I6, I7, reduceIte, reduceCtorEq]
  have fin : j < ow.length → ∀ c : Int, ch[j]? = some c → ¬ (∀ n : Nat, (digL ow su)[j]? = some n → c = n) → c + 1 ≤ 9223372036854775807 ∧ WJ ow ws (digL ow su) tg w2 (List.replicate j 0 ++ (c + 1) :: ch.drop (j + 1)) ∧ mr (digL ow su) (List.replicate j 0 ++ (c + 1) :: ch.drop (j + 1)) = mr (digL ow su) ch + 1 := fun hj c gc hne => by
    obtain ⟨c', gc', c0, cl, _, _, hcn⟩ := chr j hj
    rw [gc] at gc'; cases gc'
    have gn := gd j hj
    generalize (if ow.getD j 0 = 1 then 0 else (su.getD j []).length - 1) = n at gn
    have hm := mr_inc J.ok hmax gc gn
    have hcn := hcn n gn
    have hne' : ¬ c = n := fun e => hne fun n' hn' => by rw [gn] at hn'; cases hn'; exact e
    have hrl := B.r (su.getD j []) (by rw [List.getD, List.getElem?_eq_getElem (by omega)]; exact List.getElem_mem _)
    have hrl : (su.getD j []).length < 1000000000000 := hrl
    refine ⟨by omega, ⟨?_, lw2, J2w, J2s, fun h => J2d (by rw [hm] at h; omega)⟩, hm⟩
    refine mOk_zeros j (by omega) ?_
    have h := mOk_drop j J.ok
    rw [drop_get gn, drop_get gc] at h
    rw [drop_get gn]
    exact ⟨by have := h.1; omega, by omega, h.2.2⟩
  refine QIf.intro (fun y => ?_) (fun y => ?_)
  · have hj : j < ow.length := by omega
    have j0 : (0 : Int) ≤ j := by omega
    have jn : (j : Int) < ow.length := by omega
    have j1 : j + 1 ≤ ow.length := hj
    have hwj := wrap_succ (k := j) (by show _ < 1000000000000; omega)
    obtain ⟨c, gc, c0, cl, co1, co0, hcn⟩ := chr j hj
    obtain ⟨o, g1⟩ := some_of (xs := ow) (k := j) hj
    obtain ⟨r, g4⟩ := some_of (xs := su) (k := j) (by omega)
    have e1 : ow.getD j 0 = o := getD_some g1
    have e4 : su.getD j [] = r := by simp [List.getD, g4]
    have gc2 := chg j hj
    have hs0 : cc.set j 0 = List.replicate (j + 1) 0 ++ ch.drop (j + 1) := by rw [hcc, chs j 0 hj, rep1]
    have hs1 : ∀ y : Int, cc.set j y = List.replicate j 0 ++ y :: ch.drop (j + 1) := fun y => by rw [hcc, chs j y hj]
    rw [gc, ← hcc] at gc2
    rw [e4] at cl co0
    rw [e1] at co1 co0
    have hrl : r.length < 1000000000000 := B.r r (List.mem_of_getElem? g4)
    have hwc : IntKind.i64.wrap (c + 1) = c + 1 := wrap64 (by omega) (by omega)
    have next : (∀ n : Nat, (digL ow su)[j]? = some n → c = n) → j + 1 ≤ ow.length ∧ ∀ (u : Nat) (c : Int) (n : Nat), u < j + 1 → ch[u]? = some c → (digL ow su)[u]? = some n → c = n := fun h => ⟨hj, fun u c' n hu h1 h2 => by
      by_cases e : u = j
      · subst e; rw [gc] at h1; cases h1; exact h n h2
      · exact hmax u c' n (by omega) h1 h2⟩
    simp only [PP, P1, P2, P3, P4, P5, P6, P7, P8, P9, P10, P11, P12, P13, P14, L1, P15, N1, N2, N3, N4, N5, N6, N7, I1, I2, I3, I4, I5, I6, I7, reduceIte, reduceCtorEq, y, j0, jn, g1]
    refine QIf.intro (fun z => ?_) (fun z => ?_)
    · simp only [PP, P1, P2, P3, P4, P5, P6, P7, P8, P9, P10, P11, P12, P13, P14, L1, P15, N1, N2, N3, N4, N5, N6, N7, I1, I2, I3, I4, I5, I6, I7, reduceIte, reduceCtorEq, y, z, j0, jn, j1, lcc, hwj]
      refine SemW_to (ih4 (j + 1) (vj + 1) (cc.set j 0) ⟨hs0, next fun n hn => ?_⟩ (by omega)) (by simp only [PWeak_nil, PWeak_junk, PWeak_same, Int.cast_ofNat_Int, List.length_append, List.length_cons, List.length_nil, Nat.zero_add]) (by simp only [← List.map_set])
      rw [gd j hj, if_pos (by rw [e1]; exact z)] at hn
      cases hn; exact co1 z
    · have oz : o = 0 := by
        have := hO j hj
        rw [show zO ow j = o from e1] at this
        rcases this with e | e
        · exact e
        · exact absurd e z
      simp only [PP, P1, P2, P3, P4, P5, P6, P7, P8, P9, P10, P11, P12, P13, P14, L1, P15, N1, N2, N3, N4, N5, N6, N7, I1, I2, I3, I4, I5, I6, I7, reduceIte, reduceCtorEq, y, z, j0, jn, j1, gc2, g4, hs, lcc, hwc]
      refine QIf.intro (fun q => ?_) (fun q => ?_)
      · simp only [PP, P1, P2, P3, P4, P5, P6, P7, P8, P9, P10, P11, P12, P13, P14, L1, P15, N1, N2, N3, N4, N5, N6, N7, I1, I2, I3, I4, I5, I6, I7, reduceIte, reduceCtorEq, q, j0, jn, j1, lcc, hwj]
        exact SemW_to (ih4 (j + 1) (vj + 1) (cc.set j 0) ⟨hs0, next ((co0 oz).1 q)⟩ (by omega)) (by simp only [PWeak_nil, PWeak_junk, PWeak_same, Int.cast_ofNat_Int, List.length_append, List.length_cons, List.length_nil, Nat.zero_add]) (by simp only [← List.map_set])
      · obtain ⟨_, f2, f3⟩ := fin hj c gc (fun h => q ((co0 oz).2 h))
        have jne : ¬ (j : Int) = ow.length := by omega
        have hmt := mr_lt f2.ok
        simp only [PP, P1, P2, P3, P4, P5, P6, P7, P8, P9, P10, P11, P12, P13, P14, L1, P15, N1, N2, N3, N4, N5, N6, N7, I1, I2, I3, I4, I5, I6, I7, reduceIte, reduceCtorEq, q, jne, j0, jn, j1, gc2, lcc, hwc]
        refine SemW_to (ih v9 vr (vj + 1) w2 a (cc.set j (c + 1)) ⟨by rw [hs1]; exact f2, la⟩ (by rw [hs1, f3]; omega)) (by simp only [PWeak_nil, PWeak_junk, PWeak_same, Int.cast_ofNat_Int, List.length_append, List.length_cons, List.length_nil, Nat.zero_add]) (by simp only [← List.map_set])
  · have hjn : j = ow.length := by omega
    subst hjn
    simp only [PP, P1, P2, P3, P4, P5, P6, P7, P8, P9, P10, P11, P12, P13, P14, L1, P15, N1, N2, N3, N4, N5, N6, N7, I1, I2, I3, I4, I5, I6, I7, reduceIte, reduceCtorEq, y]
    have hle : mr (digL ow su) tg ≤ mr (digL ow su) ch := mr_mono (mOk_len htg) (mOk_len J.ok) fun u c d h1 h2 => by
      have hu : u < ow.length := by have := getSome_lt h2; omega
      have := hmax u d _ hu h2 (gd u hu)
      have := (mOk_get htg h1 (gd u hu)).2
      omega
    have hwin : w2 = ws := by
      apply List.ext_getElem?
      intro v
      by_cases hv : v < ow.length
      · obtain ⟨x, gx⟩ := some_of (xs := ws) (k := v) (by omega)
        have ex := getD_some gx
        rw [gx]
        rcases L.w01 x (List.mem_of_getElem? gx) with e | e
        · rw [J2d hle v hv (by rw [ex, e]), e]
        · rcases J2w v hv with h | h
          · have := J2s v hv h; rw [ex, e] at this; cases this
          · rw [h, e]
      · rw [List.getElem?_eq_none (by omega), List.getElem?_eq_none (by omega)]
    subst hwin
    rw [frzI lw2]
    simp only [PP, P1, P2, P3, P4, P5, P6, P7, P8, P9, P10, P11, P12, P13, P14, L1, P15, N1, N2, N3, N4, N5, N6, N7, I1, I2, I3, I4, I5, I6, I7, reduceIte, reduceCtorEq]
    exact hk
end
end Go.Am.Ar
set_option linter.unusedVariables false
set_option linter.unusedSimpArgs false
set_option maxRecDepth 10000
namespace Go.Am.Ar
open Go.Am renaming pchk → P1, pold → P2, PKNo → P3, ppack → P4, PObj.under → P5, pput → P6, ptset → P7, ptget → P8, pev → P9, ofAV → P10, ofAV1 → P11, ppad → P12, pfill → P13, prepl → P14, AO.effect → P15
open List renaming replicate → L1
open Nat renaming reduceAdd → N1, reduceSub → N2, reduceMul → N3, reduceLT → N4, reduceLeDiff → N5, reduceEqDiff → N6, reduceBEq → N7
open Int renaming reduceToNat → I1, reduceLT → I2, reduceLE → I3, reduceEq → I4, reduceAdd → I5, reduceSub → I6, reduceNeg → I7
section
variable {tab : FuncId → Option AF} (T : HasA tab)
include T
set_option maxHeartbeats 1000000 in
theorem zmatches_p {ow pr : List Int} {su : List (List Int)} (ho : ∀ x ∈ ow, 0 ≤ x) :
    SemC tab 3 [gmP false false false false false false false false ow pr su] [] fun r _ => r = .bool true := by
  refine SemC_fn T.h3 ?_
  simp only [af3, PP, P1, P2, P3, P4, P5, P6, P7, P8, P9, P10, P11, P12, P13, P14, L1, P15, N1, N2, N3, N4, N5, N6, N7, I1, I2, I3, I4, I5, I6, I7, reduceIte, reduceCtorEq]
  refine long0_p T ?_
  simp only [PP, P1, P2, P3, P4, P5, P6, P7, P8, P9, P10, P11, P12, P13, P14, L1, P15, N1, N2, N3, N4, N5, N6, N7, I1, I2, I3, I4, I5, I6, I7, reduceIte, reduceCtorEq]
  cases hl : longM ow pr su [] with
  | true =>
    simp only [PP, P1, P2, P3, P4, P5, P6, P7, P8, P9, P10, P11, P12, P13, P14, L1, P15, N1, N2, N3, N4, N5, N6, N7, I1, I2, I3, I4, I5, I6, I7, reduceIte, reduceCtorEq]
    refine SemC_true T.awake ?_
    simp only [PP, P1, P2, P3, P4, P5, P6, P7, P8, P9, P10, P11, P12, P13, P14, L1, P15, N1, N2, N3, N4, N5, N6, N7, I1, I2, I3, I4, I5, I6, I7, reduceIte, reduceCtorEq]
  | false =>
    have S := longM_false hl
    have B := S.bnd
    simp only [PP, P1, P2, P3, P4, P5, P6, P7, P8, P9, P10, P11, P12, P13, P14, L1, P15, N1, N2, N3, N4, N5, N6, N7, I1, I2, I3, I4, I5, I6, I7, reduceIte, reduceCtorEq]
    refine copyGame_p T B ?_
    simp only [PP, P1, P2, P3, P4, P5, P6, P7, P8, P9, P10, P11, P12, P13, P14, L1, P15, N1, N2, N3, N4, N5, N6, N7, I1, I2, I3, I4, I5, I6, I7, reduceIte, reduceCtorEq]
    refine solve_p T B ho (fun c1 => ?_) (fun c1 ws ss L => ?_)
    · simp only [PP, P1, P2, P3, P4, P5, P6, P7, P8, P9, P10, P11, P12, P13, P14, L1, P15, N1, N2, N3, N4, N5, N6, N7, I1, I2, I3, I4, I5, I6, I7, reduceIte, reduceCtorEq]
      refine refCheck_p T B ?_
      simp only [PP, P1, P2, P3, P4, P5, P6, P7, P8, P9, P10, P11, P12, P13, P14, L1, P15, N1, N2, N3, N4, N5, N6, N7, I1, I2, I3, I4, I5, I6, I7, reduceIte, reduceCtorEq]
      refine equalGame_p T B ?_
      simp only [PP, P1, P2, P3, P4, P5, P6, P7, P8, P9, P10, P11, P12, P13, P14, L1, P15, N1, N2, N3, N4, N5, N6, N7, I1, I2, I3, I4, I5, I6, I7, reduceIte, reduceCtorEq, c1, show IntKind.i64.wrap 0 = 0 from rfl]
      refine SemC_true T.awake ?_
      simp only [PP, P1, P2, P3, P4, P5, P6, P7, P8, P9, P10, P11, P12, P13, P14, L1, P15, N1, N2, N3, N4, N5, N6, N7, I1, I2, I3, I4, I5, I6, I7, reduceIte, reduceCtorEq]
    · have V := valid_of c1
      have n1 := V.n1
      simp only [PP, P1, P2, P3, P4, P5, P6, P7, P8, P9, P10, P11, P12, P13, P14, L1, P15, N1, N2, N3, N4, N5, N6, N7, I1, I2, I3, I4, I5, I6, I7, reduceIte, reduceCtorEq]
      refine refCheck_p T B ?_
      simp only [PP, P1, P2, P3, P4, P5, P6, P7, P8, P9, P10, P11, P12, P13, P14, L1, P15, N1, N2, N3, N4, N5, N6, N7, I1, I2, I3, I4, I5, I6, I7, reduceIte, reduceCtorEq, c1]
      refine equalGame_p T B ?_
      simp only [PP, P1, P2, P3, P4, P5, P6, P7, P8, P9, P10, P11, P12, P13, P14, L1, P15, N1, N2, N3, N4, N5, N6, N7, I1, I2, I3, I4, I5, I6, I7, reduceIte, reduceCtorEq]
      refine correct_p T B (fun b hb => ?_)
      have hb : b = true := hb.2 (L.corr V c1 ho)
      subst hb
      simp only [PP, P1, P2, P3, P4, P5, P6, P7, P8, P9, P10, P11, P12, P13, P14, L1, P15, N1, N2, N3, N4, N5, N6, N7, I1, I2, I3, I4, I5, I6, I7, reduceIte, reduceCtorEq]
      refine count_p T B V.s (fun k => ?_)
      simp only [PP, P1, P2, P3, P4, P5, P6, P7, P8, P9, P10, P11, P12, P13, P14, L1, P15, N1, N2, N3, N4, N5, N6, N7, I1, I2, I3, I4, I5, I6, I7, reduceIte, reduceCtorEq]
      refine QIf.intro (fun q => ?_) (fun q => ?_)
      · simp only [PP, P1, P2, P3, P4, P5, P6, P7, P8, P9, P10, P11, P12, P13, P14, L1, P15, N1, N2, N3, N4, N5, N6, N7, I1, I2, I3, I4, I5, I6, I7, reduceIte, reduceCtorEq, q]
        refine SemC_true T.awake ?_
        simp only [PP, P1, P2, P3, P4, P5, P6, P7, P8, P9, P10, P11, P12, P13, P14, L1, P15, N1, N2, N3, N4, N5, N6, N7, I1, I2, I3, I4, I5, I6, I7, reduceIte, reduceCtorEq]
      · simp only [PP, P1, P2, P3, P4, P5, P6, P7, P8, P9, P10, P11, P12, P13, P14, L1, P15, N1, N2, N3, N4, N5, N6, N7, I1, I2, I3, I4, I5, I6, I7, reduceIte, reduceCtorEq, q]
        refine winners_p T B V ho L ?_
        simp only [PP, P1, P2, P3, P4, P5, P6, P7, P8, P9, P10, P11, P12, P13, P14, L1, P15, N1, N2, N3, N4, N5, N6, N7, I1, I2, I3, I4, I5, I6, I7, reduceIte, reduceCtorEq]
        refine bytes_p T (by show _ < 1000000000000; rw [L.lw]; omega) ?_
        simp only [PP, P1, P2, P3, P4, P5, P6, P7, P8, P9, P10, P11, P12, P13, P14, L1, P15, N1, N2, N3, N4, N5, N6, N7, I1, I2, I3, I4, I5, I6, I7, reduceIte, reduceCtorEq]
        refine SemC_true T.awake ?_
        simp only [PP, P1, P2, P3, P4, P5, P6, P7, P8, P9, P10, P11, P12, P13, P14, L1, P15, N1, N2, N3, N4, N5, N6, N7, I1, I2, I3, I4, I5, I6, I7, reduceIte, reduceCtorEq]
end
end Go.Am.Ar
set_option linter.unusedVariables false
set_option linter.unusedSimpArgs false
namespace Go.Am.Ar
abbrev gameTy : Ty := .pair (.slice (.int .u8)) (.pair (.slice (.int .i64)) (.pair (.slice (.slice (.int .i64))) .unit))
structure Nums (ow pr : List Int) (su : List (List Int)) : Prop where
  o : ∀ x ∈ ow, 0 ≤ x ∧ x ≤ 255
  p : ∀ x ∈ pr, -9223372036854775808 ≤ x ∧ x ≤ 9223372036854775807
  s : ∀ r ∈ su, ∀ x ∈ r, -9223372036854775808 ≤ x ∧ x ≤ 9223372036854775807
  lo : ow.length ≤ 9223372036854775807
  lp : pr.length ≤ 9223372036854775807
  ls : su.length ≤ 9223372036854775807
  lr : ∀ r ∈ su, r.length ≤ 9223372036854775807
theorem arg_game {v : AV} {h : H} (hs : ShV gameTy v h) : ∃ (ow pr : List Int) (su : List (List Int)), RepV (wH h) (gmP false false false false false false false false ow pr su) v ∧ Nums ow pr su := by
  obtain ⟨avs, hs, rfl⟩ := hs
  obtain ⟨c1, c2, rfl, h1, c3, c4, rfl, h2, c5, c6, rfl, h3, h4⟩ := hs
  have h4 : c6 = [] := h4
  subst h4
  obtain ⟨vo, ow, rfl, p1, q1, r1⟩ := sh_intsP h1
  obtain ⟨vp, pr, rfl, p2, q2, r2⟩ := sh_intsP h2
  obtain ⟨vs, su, rfl, p3, q3, r3⟩ := sh_rowsP h3
  refine ⟨ow, pr, su, ?_, ⟨r1, r2, fun r hr => (r3 r hr).2, q1, q2, q3, fun r hr => (r3 r hr).1⟩⟩
  have := RepL.cons p1 (.cons p2 (.cons p3 (.nil (wH h))))
  exact .agg this.len this.get
theorem arg_ints {k : IntKind} {v : AV} {h : H} (hs : ShV (.slice (.int k)) v h) : ∃ (xs : List Int), RepV (wH h) (slI false false k xs) v ∧ xs.length ≤ 9223372036854775807 ∧ ∀ x ∈ xs, k.min ≤ x ∧ x ≤ k.max := by
  obtain ⟨avs, hs, rfl⟩ := hs
  obtain ⟨v, xs, rfl, p, q, r⟩ := sh_intsP hs
  exact ⟨xs, p, q, r⟩
theorem arg_int {k : IntKind} {v : AV} {h : H} (hs : ShV (.int k) v h) : ∃ (x : Int), v = .int k x ∧ RepV (wH h) (.int k x) v ∧ k.min ≤ x ∧ x ≤ k.max := by
  obtain ⟨avs, hs, rfl⟩ := hs
  obtain ⟨x, rfl, p⟩ := hs
  exact ⟨x, rfl, .int k x, p⟩
theorem run_of_C {tab : FuncId → Option AF} {g : FuncId} {args : List AV} {h : H} (hc : C (lim tab) g args h fun v _ => v = .bool true) : ∃ n h', (run tab n).call g args h = some (.bool true, h') := by
  unfold C at hc
  obtain ⟨v, h', he, rfl⟩ := hc
  obtain ⟨n, hn⟩ := (lim_call_iff tab).1 he
  exact ⟨n, h', hn⟩
theorem shVs1 {A : Ty} {args : List AV} {h : H} (hs : ShVs [A] args h) : ∃ a, args = [a] ∧ ShV A a h := by
  match args, hs with
  | [a], ⟨h1, _⟩ => exact ⟨a, rfl, h1⟩
theorem shVs2 {A B : Ty} {args : List AV} {h : H} (hs : ShVs [A, B] args h) : ∃ a b, args = [a, b] ∧ ShV A a h ∧ ShV B b h := by
  match args, hs with
  | [a, b], ⟨h1, h2, _⟩ => exact ⟨a, b, rfl, h1, h2⟩
theorem shVs3 {A B D : Ty} {args : List AV} {h : H} (hs : ShVs [A, B, D] args h) : ∃ a b d, args = [a, b, d] ∧ ShV A a h ∧ ShV B b h ∧ ShV D d h := by
  match args, hs with
  | [a, b, d], ⟨h1, h2, h3, _⟩ => exact ⟨a, b, d, rfl, h1, h2, h3⟩
theorem shVs4 {A B D E : Ty} {args : List AV} {h : H} (hs : ShVs [A, B, D, E] args h) : ∃ a b d e, args = [a, b, d, e] ∧ ShV A a h ∧ ShV B b h ∧ ShV D d h ∧ ShV E e h := by
  match args, hs with
  | [a, b, d, e], ⟨h1, h2, h3, h4, _⟩ => exact ⟨a, b, d, e, rfl, h1, h2, h3, h4⟩
theorem shVs5 {A B D E F : Ty} {args : List AV} {h : H} (hs : ShVs [A, B, D, E, F] args h) : ∃ a b d e f, args = [a, b, d, e, f] ∧ ShV A a h ∧ ShV B b h ∧ ShV D d h ∧ ShV E e h ∧ ShV F f h := by
  match args, hs with
  | [a, b, d, e, f], ⟨h1, h2, h3, h4, h5, _⟩ => exact ⟨a, b, d, e, f, rfl, h1, h2, h3, h4, h5⟩
end Go.Am.Ar
set_option linter.unusedVariables false
namespace Go.Am.Ar
theorem zmatches_all {tab : FuncId → Option AF} (T : HasA tab) (args : List AV) (h : H) (hs : ShVs [gameTy] args h) :
    ∃ n h', (run tab n).call 3 args h = some (.bool true, h') := by
  obtain ⟨a, rfl, ha⟩ := shVs1 hs
  obtain ⟨ow, pr, su, r1, N⟩ := arg_game ha
  exact run_of_C (law_of_sem (.cons r1 (.nil _)) (zmatches_p T (fun x hx => (N.o x hx).1)))
end Go.Am.Ar
