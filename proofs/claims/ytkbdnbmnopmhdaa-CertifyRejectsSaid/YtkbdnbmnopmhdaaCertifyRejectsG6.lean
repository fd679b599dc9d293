/- Contract: the reference's check of refutations (sentinelref33.Refutes), and what goes with it. -/
import Derived.Test.YtkbdnbmnopmhdaaCertifyRejectsG5
import Derived.Test.YtkbdnbmnopmhdaaCertifyRejectsG0
import Derived.Test.YtkbdnbmnopmhdaaPmL
import Derived.Test.YtkbdnbmnopmhdaaCertifyRejectsG4
import Derived.Test.YtkbdnbmnopmhdaaPmC
set_option linter.unusedVariables false
set_option linter.unusedSimpArgs false
set_option maxRecDepth 10000
namespace Go.Am.Ar
open Go.Am renaming pchk → P1, pold → P2, PKNo → P3, ppack → P4, PObj.under → P5, pput → P6, ptset → P7, ptget → P8, pev → P9, ofAV → P10, ofAV1 → P11, ppad → P12, pfill → P13, prepl → P14, AO.effect → P15
open List renaming replicate → L1
open Nat renaming reduceAdd → N1, reduceSub → N2, reduceMul → N3, reduceLT → N4, reduceLeDiff → N5, reduceEqDiff → N6, reduceBEq → N7
open Int renaming reduceToNat → I1, reduceLT → I2, reduceLE → I3, reduceEq → I4, reduceAdd → I5, reduceSub → I6, reduceNeg → I7
theorem Ch.app {S : Nat → List Nat} {A : Nat → Prop} (hA : ∀ x, A x) {u w : Nat} {d : List Nat} (hd : Ch S A u (w :: d)) : ∀ {c : List Nat}, Ch S A w c → Ch S A u (c ++ w :: d)
  | [], _ => hd
  | [x], h => ⟨h, hA w, hd⟩
  | x :: y :: c, ⟨h1, h2, h3⟩ => ⟨h1, h2, Ch.app hA hd h3⟩
theorem Ch.at {S : Nat → List Nat} {A : Nat → Prop} {u : Nat} : ∀ {c : List Nat}, Ch S A u c → ∀ (j a : Nat), c[j]? = some a → ((∀ b, c[j + 1]? = some b → b ∈ S a) ∧ (c[j + 1]? = none → u ∈ S a))
  | [], _, j, a, h => by simp at h
  | [x], hc, 0, a, h => by
    simp at h; subst h
    exact ⟨fun b hb => by simp at hb, fun _ => hc⟩
  | [x], hc, j + 1, a, h => by simp at h
  | x :: y :: c, ⟨h1, h2, h3⟩, 0, a, h => by
    simp at h; subst h
    exact ⟨fun b hb => by simp at hb; subst hb; exact h1, fun hn => by simp at hn⟩
  | x :: y :: c, ⟨h1, h2, h3⟩, j + 1, a, h => by
    have := Ch.at h3 j a (by simpa using h)
    simpa using this
theorem Ch.memA {S : Nat → List Nat} {A : Nat → Prop} {u : Nat} : ∀ {c : List Nat} {x : Nat}, Ch S A u (x :: c) → ∀ y ∈ c, A y
  | [], x, _, y, h => by cases h
  | z :: c, x, ⟨h1, h2, h3⟩, y, h => by
    rcases List.mem_cons.1 h with e | e
    · subst e; exact h2
    · exact Ch.memA h3 y e
structure RefL (ow pr : List Int) (su : List (List Int)) (ws ss : List Int) (p : Int) (st : List Nat) (w : Nat) (lc : List Nat) : Prop where
  ls : st.length ≤ ow.length
  ll : lc.length + 1 ≤ ow.length
  wn : w < ow.length
  ch : Ch (Sf (tabA ow.length (movC ow ws ss su p))) (fun _ => True) w (st ++ w :: lc)
  hd : ∀ v, (st ++ w :: lc)[0]? = some v → ws.getD v 0 = p
  mx : ∀ x ∈ lc, zP pr x ≤ zP pr w
  pw : zP pr w % 2 ≠ p
theorem refL_of {ow pr ws ss : List Int} {su : List (List Int)} {p : Int} {w : Nat} {lc : List Nat} {stem : PV} (hl : LoopR (tabA ow.length (movC ow ws ss su p)) pr p w lc) (hs : StemR (tabA ow.length (movC ow ws ss su p)) ws p w stem) :
    ∃ st, ((stem = .nils ∧ st = []) ∨ stem = slI false true .i64 (nI st)) ∧ RefL ow pr su ws ss p st w lc := by
  obtain ⟨h1, h2, h3, h4⟩ := hl
  rw [tabA_len] at h1 h3
  have hc := h2.mono fun _ _ => trivial
  rcases hs with ⟨e, q⟩ | ⟨v, sc, e, q1, q2, q3, q4, q5⟩
  · exact ⟨[], .inl ⟨e, rfl⟩, by simp, h3, h1, hc, (fun v hv => by simp at hv; subst hv; exact q), h2.memA, h4⟩
  · rw [tabA_len] at q1 q5
    exact ⟨v :: sc, .inr e, q5, h3, h1, hc.app (fun _ => trivial) q4, (fun x hx => by simp at hx; subst hx; exact q2), h2.memA, h4⟩
section
variable {tab : FuncId → Option AF} (T : HasA tab)
include T
set_option maxHeartbeats 2000000 in
theorem refutes_p {M : Mem} {K : PV → Mem → Prop} {f1 o1 f2 o2 f3 o3 f4 o4 f5 o5 f6 o6 f7 o7 f8 o8 : Bool} {ow pr ws ss : List Int} {su : List (List Int)} {p : Int} {st lc : List Nat} {w : Nat} (B : Bnd ow pr su) (F : FormP ow pr su ws ss) (hp : p = 0 ∨ p = 1)
    (R : RefL ow pr su ws ss p st w lc) (hk : K (.bool true) M) :
    SemC tab 12 [gmP f1 o1 f2 o2 f3 o3 f4 o4 ow pr su, .agg [slI f5 o5 .u8 ws, slI f6 o6 .i64 ss], slI f7 o7 .i64 (nI st), slI f8 o8 .i64 (nI (w :: lc))] M K := by
  have V := valid_of F.c
  have n0 := V.n0
  have n1 := V.n1
  have hs := V.s
  have hpl := V.p
  have lw := F.lw
  have ls := F.ls
  have r1 := R.ls
  have r2 := R.ll
  have hwp : IntKind.i64.wrap p = p := wrap64 (by omega) (by omega)
  obtain ⟨al, hal⟩ : ∃ al, al = st ++ w :: lc := ⟨_, rfl⟩
  have lal : al.length = st.length + (lc.length + 1) := by rw [hal]; simp
  have hch := R.ch
  have hhd := R.hd
  rw [← hal] at hch hhd
  have hcat : (nI st).map (PV.int .i64) ++ (nI (w :: lc)).map (PV.int .i64) = (nI al).map (PV.int .i64) := by rw [hal]; simp [nI]
  have helt : ∀ j a, al[j]? = some a → a < ow.length := fun j a h => by
    obtain ⟨h1, h2⟩ := hch.at j a h
    cases hb : al[j + 1]? with
    | some b => exact (cer_tgt V F (h1 b hb)).1
    | none => exact (cer_tgt V F (h2 hb)).1
  obtain ⟨sI, hsI⟩ : ∃ sI, sI = nI st := ⟨_, rfl⟩
  obtain ⟨lI, hlI⟩ : ∃ lI, lI = nI (w :: lc) := ⟨_, rfl⟩
  have lsI : sI.length = st.length := by rw [hsI]; simp
  have llI : lI.length = lc.length + 1 := by rw [hlI]; simp
  have gl0 : lI[0]? = some (w : Int) := by rw [hlI]; rfl
  rw [← hsI, ← hlI] at hcat ⊢
  refine SemC_pure T.h12 (by simp only [PP, P1, P2, P3, P4, P5, P6, P7, P8, P9, P10, P11, P12, P13, P14, L1, P15, N1, N2, N3, N4, N5, N6, N7, I1, I2, I3, I4, I5, I6, I7, reduceIte, reduceCtorEq]) ?_
  simp only [af12, PP, P1, P2, P3, P4, P5, P6, P7, P8, P9, P10, P11, P12, P13, P14, L1, P15, N1, N2, N3, N4, N5, N6, N7, I1, I2, I3, I4, I5, I6, I7, reduceIte, reduceCtorEq]
  refine SemC_fn T.h17 ?_
  have b1 : sI.length * 8 ≤ 140737488355328 := by omega
  have b2 : sI.length ≤ 9223372036854775807 := by omega
  have b3 : (sI.length + lI.length) * 8 ≤ 140737488355328 := by omega
  have b4 : sI.length + lI.length ≤ 9223372036854775807 := by omega
  have b5 : 0 < lI.length := by omega
  have b6 : ¬ (lI.length : Int) = 0 := by omega
  have b7 : ¬ (ow.length : Int) < sI.length := by omega
  have b8 : IntKind.i64.wrap (2 * (ow.length : Int)) = 2 * ow.length := wrap64 (by omega) (by omega)
  have b9 : ¬ 2 * (ow.length : Int) < lI.length := by omega
  have hps : psub (sI.map (PV.int .i64)) 0 sI.length = sI.map (PV.int .i64) := psub_all _ _ (by simp)
  simp only [af17, PP, P1, P2, P3, P4, P5, P6, P7, P8, P9, P10, P11, P12, P13, P14, L1, P15, N1, N2, N3, N4, N5, N6, N7, I1, I2, I3, I4, I5, I6, I7, reduceIte, reduceCtorEq, b1, b2, b3, b4, b5, b6, b7, b8, b9, hps, true_or, hcat]
  rw [show sI.length + lI.length = al.length by omega]
  refine loop1 (fun (j : Nat) => j ≤ al.length)
    (fun j => [.junk, .junk, slI f7 o7 .i64 sI, slI f8 o8 .i64 lI, .ptr 0 0 0, .ptr 1 0 0, .junk, .junk, .junk, .ref 2 1 1 0 al.length, p64 j, .junk, .junk, .junk, .junk, .junk, .junk, .junk, .junk, .junk, .junk, .junk, .junk, .junk, .junk, .junk, .junk, .junk, .junk, .junk, .junk, .junk, .junk, .junk, .junk, .junk, .junk, .junk, .junk, .junk, .junk, .junk, .junk, .junk, .junk, .junk, .junk, .junk, .junk, .junk, .junk, .junk, .junk, .junk, .junk, .junk, .junk, .junk, .junk, .junk, .junk, .junk, .junk, .junk, .junk, .junk, .junk, .junk, .junk, .junk, .junk, .junk, .junk, .junk, .junk, .junk, .junk, .junk, .junk, .junk, .junk, .junk, .junk, .junk, .junk, .junk, .junk, .junk, .junk, .junk, .junk, .junk, .junk, .junk, .junk, .junk, .junk, .junk, .junk, .junk, .junk, .junk, .junk, .junk, .junk, .junk, .junk, .junk, .junk, .junk, .junk, .junk, .junk, .junk, .junk, .junk, .junk, .junk, .junk, .junk, .junk, .junk, .junk, .junk, .junk, .junk, .junk, .junk, .junk, .junk, .junk, .junk, .junk, .junk, .junk, .junk, .junk, .junk, .junk, .junk, .junk, .junk])
    (fun j => [.cells 0 0 [slI f1 o1 .u8 ow, slI f2 o2 .i64 pr, slR f3 o3 f4 o4 .i64 su], .cells 0 0 [slI f5 o5 .u8 ws, slI f6 o6 .i64 ss], .cells 1 0 ((nI al).map (PV.int .i64))])
    (fun j => al.length - j) 0 (by omega) (by simp only [PWeak_nil, PWeak_junk, PWeak_same, Int.cast_ofNat_Int, List.length_append, List.length_cons, List.length_nil, Nat.zero_add]) rfl ?_
  intro j hle ih
  refine SemW_go (by kernel_rfl) ?_
  simp only [PP, P1, P2, P3, P4, P5, P6, P7, P8, P9, P10, P11, P12, P13, P14, L1, P15, N1, N2, N3, N4, N5, N6, N7, I1, I2, I3, I4, I5, I6, I7, reduceIte, reduceCtorEq]
  refine QIf.intro (fun c => ?_) (fun c => ?_)
  · have hj : j < al.length := by omega
    have j0 : (0 : Int) ≤ j := by omega
    have hwk := wrap_succ (k := j) (by show _ < 1000000000000; omega)
    obtain ⟨a, ga⟩ := some_of (xs := al) (k := j) hj
    have han := helt j a ga
    have a0 : ¬ (a : Int) < 0 := by omega
    have an : ¬ (ow.length : Int) ≤ a := by omega
    simp only [PP, P1, P2, P3, P4, P5, P6, P7, P8, P9, P10, P11, P12, P13, P14, L1, P15, N1, N2, N3, N4, N5, N6, N7, I1, I2, I3, I4, I5, I6, I7, reduceIte, reduceCtorEq, c, j0, ga, a0, an, hwk]
    exact SemW_weak (ih (j + 1) (by omega) (by omega)) (by simp only [PWeak_nil, PWeak_junk, PWeak_same, Int.cast_ofNat_Int, List.length_append, List.length_cons, List.length_nil, Nat.zero_add])
  have hjl : j = al.length := by omega
  clear ih
  obtain ⟨a, ga⟩ := some_of (xs := al) (k := 0) (by omega)
  have han := helt 0 a ga
  have a0 : (0 : Int) ≤ a := by omega
  have an : (a : Int) < ow.length := by omega
  have hap := hhd a ga
  obtain ⟨y, gy⟩ := some_of (xs := ws) (k := a) (by omega)
  rw [getD_some gy] at hap
  subst hap
  have l0 : 0 < al.length := by omega
  simp only [PP, P1, P2, P3, P4, P5, P6, P7, P8, P9, P10, P11, P12, P13, P14, L1, P15, N1, N2, N3, N4, N5, N6, N7, I1, I2, I3, I4, I5, I6, I7, reduceIte, reduceCtorEq, c, ga, gy, a0, an, lw, l0, Int.le_refl]
  refine ⟨by omega, ?_⟩
  obtain ⟨pw, gpw⟩ := some_of (xs := pr) (k := w) (by have := R.wn; omega)
  have epw : zP pr w = pw := getD_some gpw
  have pw0 : 0 ≤ pw := (V.pri0 pw (List.mem_of_getElem? gpw)).1
  have hrem : pw.tmod 2 = pw % 2 := Int.tmod_eq_emod_of_nonneg pw0
  have hpw := R.pw
  rw [epw] at hpw
  clear hle c hjl
  refine loop2 (fun (j : Nat) (mx : Int) => j ≤ al.length ∧ (j ≤ st.length → mx = 0) ∧ (st.length < j → mx = pw))
    (fun j mx => [.junk, .junk, slI f7 o7 .i64 sI, slI f8 o8 .i64 lI, .ptr 0 0 0, .ptr 1 0 0, .junk, .junk, .junk, .ref 2 1 1 0 al.length, .junk, p8 y, p64 mx, p64 j, .junk, .junk, .junk, .junk, .junk, .junk, .junk, .junk, .junk, .junk, .junk, .junk, .junk, .junk, .junk, .junk, .junk, .junk, .junk, .junk, .junk, .junk, .junk, .junk, .junk, .junk, .junk, .junk, .junk, .junk, .junk, .junk, .junk, .junk, .junk, .junk, .junk, .junk, .junk, .junk, .junk, .junk, .junk, .junk, .junk, .junk, .junk, .junk, .junk, .junk, .junk, .junk, .junk, .junk, .junk, .junk, .junk, .junk, .junk, .junk, .junk, .junk, .junk, .junk, .junk, .junk, .junk, .junk, .junk, .junk, .junk, .junk, .junk, .junk, .junk, .junk, .junk, .junk, .junk, .junk, .junk, .junk, .junk, .junk, .junk, .junk, .junk, .junk, .junk, .junk, .junk, .junk, .junk, .junk, .junk, .junk, .junk, .junk, .junk, .junk, .junk, .junk, .junk, .junk, .junk, .junk, .junk, .junk, .junk, .junk, .junk, .junk, .junk, .junk, .junk, .junk, .junk, .junk, .junk, .junk, .junk, .junk, .junk, .junk, .junk, .junk, .junk, .junk])
    (fun j mx => [.cells 0 0 [slI f1 o1 .u8 ow, slI f2 o2 .i64 pr, slR f3 o3 f4 o4 .i64 su], .cells 0 0 [slI f5 o5 .u8 ws, slI f6 o6 .i64 ss], .cells 1 0 ((nI al).map (PV.int .i64))])
    (fun j mx => al.length - j) 0 0 ⟨by omega, fun _ => rfl, fun h => by omega⟩ (by simp only [PWeak_nil, PWeak_junk, PWeak_same, Int.cast_ofNat_Int, List.length_append, List.length_cons, List.length_nil, Nat.zero_add]) rfl ?_
  intro j mx ⟨hle, hm1, hm2⟩ ih
  refine SemW_go (by kernel_rfl) ?_
  simp only [PP, P1, P2, P3, P4, P5, P6, P7, P8, P9, P10, P11, P12, P13, P14, L1, P15, N1, N2, N3, N4, N5, N6, N7, I1, I2, I3, I4, I5, I6, I7, reduceIte, reduceCtorEq]
  refine QIf.intro (fun c => ?_) (fun c => ?_)
  · have hj : j < al.length := by omega
    have j0 : (0 : Int) ≤ j := by omega
    have hwk := wrap_succ (k := j) (by show _ < 1000000000000; omega)
    obtain ⟨a1, ga1⟩ := some_of (xs := al) (k := j) hj
    have han1 := helt j a1 ga1
    have a10 : (0 : Int) ≤ a1 := by omega
    have a1n : (a1 : Int) < ow.length := by omega
    obtain ⟨o, g1⟩ := some_of (xs := ow) (k := a1) han1
    obtain ⟨w1, g2⟩ := some_of (xs := ws) (k := a1) (by omega)
    obtain ⟨s, g3⟩ := some_of (xs := ss) (k := a1) (by omega)
    obtain ⟨r, g4⟩ := some_of (xs := su) (k := a1) (by omega)
    obtain ⟨q, g5⟩ := some_of (xs := pr) (k := a1) (by omega)
    have e1 : ow.getD a1 0 = o := getD_some g1
    have e2 : ws.getD a1 0 = w1 := getD_some g2
    have e3 : ss.getD a1 0 = s := getD_some g3
    have e4 : su.getD a1 [] = r := by simp [List.getD, g4]
    have e5 : zP pr a1 = q := getD_some g5
    have hq0 : 0 ≤ q := (V.pri0 q (List.mem_of_getElem? g5)).1
    have hmax : st.length ≤ j → max mx q = pw := fun h => by
      have h1 : (w :: lc)[j - st.length]? = some a1 := by
        rw [← ga1, hal, List.getElem?_append_right h]
      by_cases e : j = st.length
      · rw [e, Nat.sub_self] at h1
        simp at h1
        subst h1
        have := hm1 (by omega)
        omega
      · have h2 : a1 ∈ lc := by
          obtain ⟨i, hi⟩ : ∃ i, j - st.length = i + 1 := ⟨j - st.length - 1, by omega⟩
          rw [hi] at h1
          exact List.mem_of_getElem? (by simpa using h1)
        have h3 := R.mx a1 h2
        have := hm2 (by omega)
        omega
    obtain ⟨c1, c2⟩ := hch.at j a1 ga1
    have edge : ∀ b : Nat, b ∈ Sf (tabA ow.length (movC ow ws ss su y)) a1 → (b : Int) ∈ r ∧ (o = y → w1 = y → s = (b : Int)) := fun b hb => by
      obtain ⟨t1, t2, t3, t4⟩ := cer_tgt V F hb
      refine ⟨?_, fun h1 h2 => by have := t4 (by rw [e1]; exact h1) (by rw [e2]; exact h2); rwa [e3] at this⟩
      have := sf_mem V han1 (x := (b : Int)) (by omega) (by simpa using t3)
      rwa [e4] at this
    have lI0 : (0 : Int) < lI.length := by omega
    simp only [PP, P1, P2, P3, P4, P5, P6, P7, P8, P9, P10, P11, P12, P13, P14, L1, P15, N1, N2, N3, N4, N5, N6, N7, I1, I2, I3, I4, I5, I6, I7, reduceIte, reduceCtorEq, c, ga1, j0, gl0, hwk, lI0, Int.le_refl]
    refine QIf.intro (fun d => ?_) (fun d => ?_)
    · have hj1 : j + 1 < al.length := by omega
      have k1 : (0 : Int) ≤ ((j + 1 : Nat) : Int) := by omega
      obtain ⟨b, gb⟩ := some_of (xs := al) (k := j + 1) hj1
      obtain ⟨m1, m2⟩ := edge b (c1 b gb)
      simp only [PP, P1, P2, P3, P4, P5, P6, P7, P8, P9, P10, P11, P12, P13, P14, L1, P15, N1, N2, N3, N4, N5, N6, N7, I1, I2, I3, I4, I5, I6, I7, reduceIte, reduceCtorEq, d, k1, gb, a10, a1n, g4, hs, hwk]
      refine hasInt_p T (B.r r (List.mem_of_getElem? g4)) ?_
      by_cases q1 : o = y
      · by_cases q2 : w1 = y
        · have q3 := m2 q1 q2
          simp only [PP, P1, P2, P3, P4, P5, P6, P7, P8, P9, P10, P11, P12, P13, P14, L1, P15, N1, N2, N3, N4, N5, N6, N7, I1, I2, I3, I4, I5, I6, I7, reduceIte, reduceCtorEq, m1, q1, q2, q3, a10, a1n, g1, g2, g3, lw, ls]
          refine QIf.intro (fun z => ?_) (fun z => ?_)
          · simp only [PP, P1, P2, P3, P4, P5, P6, P7, P8, P9, P10, P11, P12, P13, P14, L1, P15, N1, N2, N3, N4, N5, N6, N7, I1, I2, I3, I4, I5, I6, I7, reduceIte, reduceCtorEq, z, a10, a1n, g5, hpl, hwk]
            exact SemW_to (ih (j + 1) (max mx q) ⟨by omega, fun h => by omega, fun _ => hmax (by omega)⟩ (by omega)) (by simp only [PWeak_nil, PWeak_junk, PWeak_same, Int.cast_ofNat_Int, List.length_append, List.length_cons, List.length_nil, Nat.zero_add]) rfl
          · simp only [PP, P1, P2, P3, P4, P5, P6, P7, P8, P9, P10, P11, P12, P13, P14, L1, P15, N1, N2, N3, N4, N5, N6, N7, I1, I2, I3, I4, I5, I6, I7, reduceIte, reduceCtorEq, z, hwk]
            exact SemW_weak (ih (j + 1) mx ⟨by omega, fun h => hm1 (by omega), fun h => by omega⟩ (by omega)) (by simp only [PWeak_nil, PWeak_junk, PWeak_same, Int.cast_ofNat_Int, List.length_append, List.length_cons, List.length_nil, Nat.zero_add])
        · simp only [PP, P1, P2, P3, P4, P5, P6, P7, P8, P9, P10, P11, P12, P13, P14, L1, P15, N1, N2, N3, N4, N5, N6, N7, I1, I2, I3, I4, I5, I6, I7, reduceIte, reduceCtorEq, m1, q1, q2, a10, a1n, g1, g2, lw]
          refine QIf.intro (fun z => ?_) (fun z => ?_)
          · simp only [PP, P1, P2, P3, P4, P5, P6, P7, P8, P9, P10, P11, P12, P13, P14, L1, P15, N1, N2, N3, N4, N5, N6, N7, I1, I2, I3, I4, I5, I6, I7, reduceIte, reduceCtorEq, z, a10, a1n, g5, hpl, hwk]
            exact SemW_to (ih (j + 1) (max mx q) ⟨by omega, fun h => by omega, fun _ => hmax (by omega)⟩ (by omega)) (by simp only [PWeak_nil, PWeak_junk, PWeak_same, Int.cast_ofNat_Int, List.length_append, List.length_cons, List.length_nil, Nat.zero_add]) rfl
          · simp only [PP, P1, P2, P3, P4, P5, P6, P7, P8, P9, P10, P11, P12, P13, P14, L1, P15, N1, N2, N3, N4, N5, N6, N7, I1, I2, I3, I4, I5, I6, I7, reduceIte, reduceCtorEq, z, hwk]
            exact SemW_weak (ih (j + 1) mx ⟨by omega, fun h => hm1 (by omega), fun h => by omega⟩ (by omega)) (by simp only [PWeak_nil, PWeak_junk, PWeak_same, Int.cast_ofNat_Int, List.length_append, List.length_cons, List.length_nil, Nat.zero_add])
      · simp only [PP, P1, P2, P3, P4, P5, P6, P7, P8, P9, P10, P11, P12, P13, P14, L1, P15, N1, N2, N3, N4, N5, N6, N7, I1, I2, I3, I4, I5, I6, I7, reduceIte, reduceCtorEq, m1, q1, a10, a1n, g1]
        refine QIf.intro (fun z => ?_) (fun z => ?_)
        · simp only [PP, P1, P2, P3, P4, P5, P6, P7, P8, P9, P10, P11, P12, P13, P14, L1, P15, N1, N2, N3, N4, N5, N6, N7, I1, I2, I3, I4, I5, I6, I7, reduceIte, reduceCtorEq, z, a10, a1n, g5, hpl, hwk]
          exact SemW_to (ih (j + 1) (max mx q) ⟨by omega, fun h => by omega, fun _ => hmax (by omega)⟩ (by omega)) (by simp only [PWeak_nil, PWeak_junk, PWeak_same, Int.cast_ofNat_Int, List.length_append, List.length_cons, List.length_nil, Nat.zero_add]) rfl
        · simp only [PP, P1, P2, P3, P4, P5, P6, P7, P8, P9, P10, P11, P12, P13, P14, L1, P15, N1, N2, N3, N4, N5, N6, N7, I1, I2, I3, I4, I5, I6, I7, reduceIte, reduceCtorEq, z, hwk]
          exact SemW_weak (ih (j + 1) mx ⟨by omega, fun h => hm1 (by omega), fun h => by omega⟩ (by omega)) (by simp only [PWeak_nil, PWeak_junk, PWeak_same, Int.cast_ofNat_Int, List.length_append, List.length_cons, List.length_nil, Nat.zero_add])
    · have gb : al[j + 1]? = none := List.getElem?_eq_none (by omega)
      obtain ⟨m1, m2⟩ := edge w (c2 gb)
      simp only [PP, P1, P2, P3, P4, P5, P6, P7, P8, P9, P10, P11, P12, P13, P14, L1, P15, N1, N2, N3, N4, N5, N6, N7, I1, I2, I3, I4, I5, I6, I7, reduceIte, reduceCtorEq, d, a10, a1n, g4, hs]
      refine hasInt_p T (B.r r (List.mem_of_getElem? g4)) ?_
      by_cases q1 : o = y
      · by_cases q2 : w1 = y
        · have q3 := m2 q1 q2
          simp only [PP, P1, P2, P3, P4, P5, P6, P7, P8, P9, P10, P11, P12, P13, P14, L1, P15, N1, N2, N3, N4, N5, N6, N7, I1, I2, I3, I4, I5, I6, I7, reduceIte, reduceCtorEq, m1, q1, q2, q3, a10, a1n, g1, g2, g3, lw, ls]
          refine QIf.intro (fun z => ?_) (fun z => ?_)
          · simp only [PP, P1, P2, P3, P4, P5, P6, P7, P8, P9, P10, P11, P12, P13, P14, L1, P15, N1, N2, N3, N4, N5, N6, N7, I1, I2, I3, I4, I5, I6, I7, reduceIte, reduceCtorEq, z, a10, a1n, g5, hpl, hwk]
            exact SemW_to (ih (j + 1) (max mx q) ⟨by omega, fun h => by omega, fun _ => hmax (by omega)⟩ (by omega)) (by simp only [PWeak_nil, PWeak_junk, PWeak_same, Int.cast_ofNat_Int, List.length_append, List.length_cons, List.length_nil, Nat.zero_add]) rfl
          · simp only [PP, P1, P2, P3, P4, P5, P6, P7, P8, P9, P10, P11, P12, P13, P14, L1, P15, N1, N2, N3, N4, N5, N6, N7, I1, I2, I3, I4, I5, I6, I7, reduceIte, reduceCtorEq, z, hwk]
            exact SemW_weak (ih (j + 1) mx ⟨by omega, fun h => hm1 (by omega), fun h => by omega⟩ (by omega)) (by simp only [PWeak_nil, PWeak_junk, PWeak_same, Int.cast_ofNat_Int, List.length_append, List.length_cons, List.length_nil, Nat.zero_add])
        · simp only [PP, P1, P2, P3, P4, P5, P6, P7, P8, P9, P10, P11, P12, P13, P14, L1, P15, N1, N2, N3, N4, N5, N6, N7, I1, I2, I3, I4, I5, I6, I7, reduceIte, reduceCtorEq, m1, q1, q2, a10, a1n, g1, g2, lw]
          refine QIf.intro (fun z => ?_) (fun z => ?_)
          · simp only [PP, P1, P2, P3, P4, P5, P6, P7, P8, P9, P10, P11, P12, P13, P14, L1, P15, N1, N2, N3, N4, N5, N6, N7, I1, I2, I3, I4, I5, I6, I7, reduceIte, reduceCtorEq, z, a10, a1n, g5, hpl, hwk]
            exact SemW_to (ih (j + 1) (max mx q) ⟨by omega, fun h => by omega, fun _ => hmax (by omega)⟩ (by omega)) (by simp only [PWeak_nil, PWeak_junk, PWeak_same, Int.cast_ofNat_Int, List.length_append, List.length_cons, List.length_nil, Nat.zero_add]) rfl
          · simp only [PP, P1, P2, P3, P4, P5, P6, P7, P8, P9, P10, P11, P12, P13, P14, L1, P15, N1, N2, N3, N4, N5, N6, N7, I1, I2, I3, I4, I5, I6, I7, reduceIte, reduceCtorEq, z, hwk]
            exact SemW_weak (ih (j + 1) mx ⟨by omega, fun h => hm1 (by omega), fun h => by omega⟩ (by omega)) (by simp only [PWeak_nil, PWeak_junk, PWeak_same, Int.cast_ofNat_Int, List.length_append, List.length_cons, List.length_nil, Nat.zero_add])
      · simp only [PP, P1, P2, P3, P4, P5, P6, P7, P8, P9, P10, P11, P12, P13, P14, L1, P15, N1, N2, N3, N4, N5, N6, N7, I1, I2, I3, I4, I5, I6, I7, reduceIte, reduceCtorEq, m1, q1, a10, a1n, g1]
        refine QIf.intro (fun z => ?_) (fun z => ?_)
        · simp only [PP, P1, P2, P3, P4, P5, P6, P7, P8, P9, P10, P11, P12, P13, P14, L1, P15, N1, N2, N3, N4, N5, N6, N7, I1, I2, I3, I4, I5, I6, I7, reduceIte, reduceCtorEq, z, a10, a1n, g5, hpl, hwk]
          exact SemW_to (ih (j + 1) (max mx q) ⟨by omega, fun h => by omega, fun _ => hmax (by omega)⟩ (by omega)) (by simp only [PWeak_nil, PWeak_junk, PWeak_same, Int.cast_ofNat_Int, List.length_append, List.length_cons, List.length_nil, Nat.zero_add]) rfl
        · simp only [PP, P1, P2, P3, P4, P5, P6, P7, P8, P9, P10, P11, P12, P13, P14, L1, P15, N1, N2, N3, N4, N5, N6, N7, I1, I2, I3, I4, I5, I6, I7, reduceIte, reduceCtorEq, z, hwk]
          exact SemW_weak (ih (j + 1) mx ⟨by omega, fun h => hm1 (by omega), fun h => by omega⟩ (by omega)) (by simp only [PWeak_nil, PWeak_junk, PWeak_same, Int.cast_ofNat_Int, List.length_append, List.length_cons, List.length_nil, Nat.zero_add])
  · have hjl : j = al.length := by omega
    have hm := hm2 (by omega)
    subst hm
    simp only [PP, P1, P2, P3, P4, P5, P6, P7, P8, P9, P10, P11, P12, P13, P14, L1, P15, N1, N2, N3, N4, N5, N6, N7, I1, I2, I3, I4, I5, I6, I7, reduceIte, reduceCtorEq, c, prem (show (2 : Int) ≠ 0 by decide), hrem, hwp, hpw]
    exact hk
end
end Go.Am.Ar
set_option linter.unusedVariables false
set_option linter.unusedSimpArgs false
namespace Go.Am.Ar
abbrev gameTy : Ty := .pair (.slice (.int .u8)) (.pair (.slice (.int .i64)) (.pair (.slice (.slice (.int .i64))) .unit))
structure Nums (ow pr : List Int) (su : List (List Int)) : Prop where
  o : ∀ x ∈ ow, 0 ≤ x ∧ x ≤ 255
  p : ∀ x ∈ pr, -9223372036854775808 ≤ x ∧ x ≤ 9223372036854775807
  s : ∀ r ∈ su, ∀ x ∈ r, -9223372036854775808 ≤ x ∧ x ≤ 9223372036854775807
  lo : ow.length ≤ 9223372036854775807
  lp : pr.length ≤ 9223372036854775807
  ls : su.length ≤ 9223372036854775807
  lr : ∀ r ∈ su, r.length ≤ 9223372036854775807
theorem arg_game {v : AV} {h : H} (hs : ShV gameTy v h) : ∃ (ow pr : List Int) (su : List (List Int)), RepV (wH h) (gmP false false false false false false false false ow pr su) v ∧ Nums ow pr su := by
  obtain ⟨avs, hs, rfl⟩ := hs
  obtain ⟨c1, c2, rfl, h1, c3, c4, rfl, h2, c5, c6, rfl, h3, h4⟩ := hs
  have h4 : c6 = [] := h4
  subst h4
  obtain ⟨vo, ow, rfl, p1, q1, r1⟩ := sh_intsP h1
  obtain ⟨vp, pr, rfl, p2, q2, r2⟩ := sh_intsP h2
  obtain ⟨vs, su, rfl, p3, q3, r3⟩ := sh_rowsP h3
  refine ⟨ow, pr, su, ?_, ⟨r1, r2, fun r hr => (r3 r hr).2, q1, q2, q3, fun r hr => (r3 r hr).1⟩⟩
  have := RepL.cons p1 (.cons p2 (.cons p3 (.nil (wH h))))
  exact .agg this.len this.get
theorem arg_int {k : IntKind} {v : AV} {h : H} (hs : ShV (.int k) v h) : ∃ (x : Int), v = .int k x ∧ RepV (wH h) (.int k x) v ∧ k.min ≤ x ∧ x ≤ k.max := by
  obtain ⟨avs, hs, rfl⟩ := hs
  obtain ⟨x, rfl, p⟩ := hs
  exact ⟨x, rfl, .int k x, p⟩
theorem run_of_C {tab : FuncId → Option AF} {g : FuncId} {args : List AV} {h : H} (hc : C (lim tab) g args h fun v _ => v = .bool true) : ∃ n h', (run tab n).call g args h = some (.bool true, h') := by
  unfold C at hc
  obtain ⟨v, h', he, rfl⟩ := hc
  obtain ⟨n, hn⟩ := (lim_call_iff tab).1 he
  exact ⟨n, h', hn⟩
theorem shVs2 {A B : Ty} {args : List AV} {h : H} (hs : ShVs [A, B] args h) : ∃ a b, args = [a, b] ∧ ShV A a h ∧ ShV B b h := by
  match args, hs with
  | [a, b], ⟨h1, h2, _⟩ => exact ⟨a, b, rfl, h1, h2⟩
end Go.Am.Ar
set_option linter.unusedVariables false
set_option linter.unusedSimpArgs false
set_option maxRecDepth 10000
namespace Go.Am.Ar
open Go.Am renaming pchk → P1, pold → P2, PKNo → P3, ppack → P4, PObj.under → P5, pput → P6, ptset → P7, ptget → P8, pev → P9, ofAV → P10, ofAV1 → P11, ppad → P12, pfill → P13, prepl → P14, AO.effect → P15
open List renaming replicate → L1
open Nat renaming reduceAdd → N1, reduceSub → N2, reduceMul → N3, reduceLT → N4, reduceLeDiff → N5, reduceEqDiff → N6, reduceBEq → N7
open Int renaming reduceToNat → I1, reduceLT → I2, reduceLE → I3, reduceEq → I4, reduceAdd → I5, reduceSub → I6, reduceNeg → I7
section
variable {tab : FuncId → Option AF} (T : HasA tab)
include T
end
end Go.Am.Ar
set_option linter.unusedVariables false
set_option linter.unusedSimpArgs false
set_option maxRecDepth 10000
namespace Go.Am.Ar
section
variable {tab : FuncId → Option AF} (T : HasA tab)
include T
end
end Go.Am.Ar
set_option linter.unusedVariables false
set_option linter.unusedSimpArgs false
set_option maxRecDepth 10000
namespace Go.Am.Ar
open Go.Am renaming pchk → P1, pold → P2, PKNo → P3, ppack → P4, PObj.under → P5, pput → P6, ptset → P7, ptget → P8, pev → P9, ofAV → P10, ofAV1 → P11, ppad → P12, pfill → P13, prepl → P14, AO.effect → P15
open List renaming replicate → L1
open Nat renaming reduceAdd → N1, reduceSub → N2, reduceMul → N3, reduceLT → N4, reduceLeDiff → N5, reduceEqDiff → N6, reduceBEq → N7
open Int renaming reduceToNat → I1, reduceLT → I2, reduceLE → I3, reduceEq → I4, reduceAdd → I5, reduceSub → I6, reduceNeg → I7
section
variable {tab : FuncId → Option AF} (T : HasA tab)
include T
theorem refutesN_p {M : Mem} {K : PV → Mem → Prop} {f1 o1 f2 o2 f3 o3 f4 o4 f5 o5 f6 o6 f8 o8 : Bool} {ow pr ws ss : List Int} {su : List (List Int)} {p : Int} {lc : List Nat} {w : Nat} (B : Bnd ow pr su) (F : FormP ow pr su ws ss) (hp : p = 0 ∨ p = 1)
    (R : RefL ow pr su ws ss p [] w lc) (hk : K (.bool true) M) :
    SemC tab 12 [gmP f1 o1 f2 o2 f3 o3 f4 o4 ow pr su, .agg [slI f5 o5 .u8 ws, slI f6 o6 .i64 ss], .nils, slI f8 o8 .i64 (nI (w :: lc))] M K :=
  SemC_args (args2 := [gmP f1 o1 f2 o2 f3 o3 f4 o4 ow pr su, .agg [slI f5 o5 .u8 ws, slI f6 o6 .i64 ss], slI true true .i64 (nI []), slI f8 o8 .i64 (nI (w :: lc))]) (fun v l h => by
    match l, h with
    | [a, b, c, d], h => exact .cons h.hd (.cons h.tl.hd (.cons (PvWk.nils true true 1 v c h.tl.tl.hd) (.cons h.tl.tl.tl.hd (.nil v))))
    | [], h => exact absurd h.len (by simp)
    | [_], h => exact absurd h.len (by simp)
    | [_, _], h => exact absurd h.len (by simp)
    | [_, _, _], h => exact absurd h.len (by simp)
    | _ :: _ :: _ :: _ :: _ :: _, h => exact absurd h.len (by simp)) (refutes_p T B F hp R hk)
end
end Go.Am.Ar
set_option linter.unusedVariables false
set_option linter.unusedSimpArgs false
set_option maxRecDepth 10000
namespace Go.Am.Ar
open Go.Am renaming pchk → P1, pold → P2, PKNo → P3, ppack → P4, PObj.under → P5, pput → P6, ptset → P7, ptget → P8, pev → P9, ofAV → P10, ofAV1 → P11, ppad → P12, pfill → P13, prepl → P14, AO.effect → P15
open List renaming replicate → L1
open Nat renaming reduceAdd → N1, reduceSub → N2, reduceMul → N3, reduceLT → N4, reduceLeDiff → N5, reduceEqDiff → N6, reduceBEq → N7
open Int renaming reduceToNat → I1, reduceLT → I2, reduceLE → I3, reduceEq → I4, reduceAdd → I5, reduceSub → I6, reduceNeg → I7
section
variable {tab : FuncId → Option AF} (T : HasA tab)
include T
set_option maxHeartbeats 2000000 in
theorem crejects_p {ow pr : List Int} {su : List (List Int)} {x : Int} (ho : ∀ x ∈ ow, 0 ≤ x) (hx0 : 0 ≤ x) (hx1 : x ≤ 255) :
    SemC tab 7 [gmP false false false false false false false false ow pr su, p8 x] [] fun r _ => r = .bool true := by
  refine SemC_pureS T.h7 (by simp only [PP, P1, P2, P3, P4, P5, P6, P7, P8, P9, P10, P11, P12, P13, P14, L1, P15, N1, N2, N3, N4, N5, N6, N7, I1, I2, I3, I4, I5, I6, I7, reduceIte, reduceCtorEq, PV.under]) ?_
  simp only [af7]
  refine SemW_seq (SemW_of ?_)
  simp only [PP, P1, P2, P3, P4, P5, P6, P7, P8, P9, P10, P11, P12, P13, P14, L1, P15, N1, N2, N3, N4, N5, N6, N7, I1, I2, I3, I4, I5, I6, I7, reduceIte, reduceCtorEq]
  refine SemW_re (GStep.freezeP (b := [.junk, p8 x, .cp [slI false false .u8 ow, slI false false .i64 pr, slR false false false false .i64 su] 0, .junk, .bool false, .junk, .junk, .junk, .junk, .junk, .junk, .junk, .junk, .junk, .junk, .junk, .junk, .junk, .junk, .junk, .junk, .junk, .junk, .junk, .junk, .junk, .junk, .junk, .junk, .junk, .junk, .junk, .junk, .junk, .junk, .junk, .junk, .junk, .junk, .junk, .junk, .junk, .junk, .junk, .junk, .junk, .junk, .junk, .junk, .junk, .junk, .junk, .junk, .junk, .junk, .junk, .junk, .junk, .junk, .junk, .junk, .junk, .junk, .junk, .junk, .junk, .junk, .junk, .junk, .junk, .junk, .junk, .junk, .junk, .junk, .junk, .junk, .junk, .junk, .junk, .junk, .junk, .junk, .junk, .junk, .junk, .junk, .junk, .junk, .junk, .junk, .junk, .junk, .junk, .junk, .junk, .junk, .junk, .junk, .junk, .junk, .junk, .junk, .junk, .junk, .junk, .junk, .junk, .junk, .junk, .junk, .junk, .junk, .junk, .junk, .junk, .junk, .junk, .junk, .junk, .junk, .junk, .junk, .junk, .junk, .junk, .junk, .junk, .junk, .junk]) 0 (Nat.zero_le _) rfl (by simp only [PFrzP_nil, PFrzP_junk, PFrzP_same, PFrzP_ptr]) rfl) ?_
  refine SemW_re (GStep.drop (b := [.junk, p8 x, .cp [slI false false .u8 ow, slI false false .i64 pr, slR false false false false .i64 su] 0, .junk, .bool false, .junk, .junk, .junk, .junk, .junk, .junk, .junk, .junk, .junk, .junk, .junk, .junk, .junk, .junk, .junk, .junk, .junk, .junk, .junk, .junk, .junk, .junk, .junk, .junk, .junk, .junk, .junk, .junk, .junk, .junk, .junk, .junk, .junk, .junk, .junk, .junk, .junk, .junk, .junk, .junk, .junk, .junk, .junk, .junk, .junk, .junk, .junk, .junk, .junk, .junk, .junk, .junk, .junk, .junk, .junk, .junk, .junk, .junk, .junk, .junk, .junk, .junk, .junk, .junk, .junk, .junk, .junk, .junk, .junk, .junk, .junk, .junk, .junk, .junk, .junk, .junk, .junk, .junk, .junk, .junk, .junk, .junk, .junk, .junk, .junk, .junk, .junk, .junk, .junk, .junk, .junk, .junk, .junk, .junk, .junk, .junk, .junk, .junk, .junk, .junk, .junk, .junk, .junk, .junk, .junk, .junk, .junk, .junk, .junk, .junk, .junk, .junk, .junk, .junk, .junk, .junk, .junk, .junk, .junk, .junk, .junk, .junk, .junk, .junk, .junk]) 0 (Nat.zero_le _) (by simp) (by simp only [PWeak_nil, PWeak_junk, PWeak_same, Int.cast_ofNat_Int, List.length_append, List.length_cons, List.length_nil, Nat.zero_add]) (by simp only [PP, P1, P2, P3, P4, P5, P6, P7, P8, P9, P10, P11, P12, P13, P14, L1, P15, N1, N2, N3, N4, N5, N6, N7, I1, I2, I3, I4, I5, I6, I7, reduceIte, reduceCtorEq, PV.under]) rfl rfl) ?_
  refine SemW_seq (SemW_of ?_)
  simp only [PP, P1, P2, P3, P4, P5, P6, P7, P8, P9, P10, P11, P12, P13, P14, L1, P15, N1, N2, N3, N4, N5, N6, N7, I1, I2, I3, I4, I5, I6, I7, reduceIte, reduceCtorEq]
  refine long0_p T ?_
  simp only [PP, P1, P2, P3, P4, P5, P6, P7, P8, P9, P10, P11, P12, P13, P14, L1, P15, N1, N2, N3, N4, N5, N6, N7, I1, I2, I3, I4, I5, I6, I7, reduceIte, reduceCtorEq]
  cases hl : longM ow pr su [] with
  | true =>
    simp only [PP, P1, P2, P3, P4, P5, P6, P7, P8, P9, P10, P11, P12, P13, P14, L1, P15, N1, N2, N3, N4, N5, N6, N7, I1, I2, I3, I4, I5, I6, I7, reduceIte, reduceCtorEq]
    refine SemC_true T.awake ?_
    simp only [PP, P1, P2, P3, P4, P5, P6, P7, P8, P9, P10, P11, P12, P13, P14, L1, P15, N1, N2, N3, N4, N5, N6, N7, I1, I2, I3, I4, I5, I6, I7, reduceIte, reduceCtorEq]
  | false =>
    have S := longM_false hl
    have B := S.bnd
    have so := S.o
    simp only [PP, P1, P2, P3, P4, P5, P6, P7, P8, P9, P10, P11, P12, P13, P14, L1, P15, N1, N2, N3, N4, N5, N6, N7, I1, I2, I3, I4, I5, I6, I7, reduceIte, reduceCtorEq]
    refine SemC_true T.awake ?_
    simp only [PP, P1, P2, P3, P4, P5, P6, P7, P8, P9, P10, P11, P12, P13, P14, L1, P15, N1, N2, N3, N4, N5, N6, N7, I1, I2, I3, I4, I5, I6, I7, reduceIte, reduceCtorEq]
    refine SemW_seq (SemW_of ?_)
    simp only [PP, P1, P2, P3, P4, P5, P6, P7, P8, P9, P10, P11, P12, P13, P14, L1, P15, N1, N2, N3, N4, N5, N6, N7, I1, I2, I3, I4, I5, I6, I7, reduceIte, reduceCtorEq]
    refine solve_r T B ho (fun o0 o1 c1 => ?_) (fun c1 ws ss v2 v6 o0 o1 o3 o4 o5 o7 L => ?_)
    · simp only [PP, P1, P2, P3, P4, P5, P6, P7, P8, P9, P10, P11, P12, P13, P14, L1, P15, N1, N2, N3, N4, N5, N6, N7, I1, I2, I3, I4, I5, I6, I7, reduceIte, reduceCtorEq]
      refine SemW_of ?_
      simp only [PP, P1, P2, P3, P4, P5, P6, P7, P8, P9, P10, P11, P12, P13, P14, L1, P15, N1, N2, N3, N4, N5, N6, N7, I1, I2, I3, I4, I5, I6, I7, reduceIte, reduceCtorEq, c1]
    have V := valid_of c1
    have n0 := V.n0
    have n1 := V.n1
    have hs := V.s
    have lw := L.lw
    have ls := L.ls
    have cn : ¬ (ow.length : Int) = 0 := by omega
    have w0 : IntKind.i64.wrap x = x := wrap64 (by omega) (by omega)
    obtain ⟨k, hk, hkn⟩ : ∃ k : Nat, x.tmod ow.length = k ∧ k < ow.length := by
      have h1 := Int.tmod_nonneg (a := x) (ow.length : Int) hx0
      have h2 := Int.tmod_lt_of_pos x (b := (ow.length : Int)) (by omega)
      exact ⟨(x.tmod ow.length).toNat, by omega, by omega⟩
    have k0 : (0 : Int) ≤ k := by omega
    have k1 : (k : Int) < ow.length := by omega
    have k2 : k + 1 ≤ ow.length := hkn
    obtain ⟨w, g1⟩ := some_of (xs := ws) (k := k) (by omega)
    obtain ⟨o, g2⟩ := some_of (xs := ow) (k := k) hkn
    obtain ⟨row, g3⟩ := some_of (xs := su) (k := k) (by omega)
    have ew : ws.getD k 0 = w := getD_some g1
    have eo : ow.getD k 0 = o := getD_some g2
    have er : su.getD k [] = row := by simp [List.getD, g3]
    have hw01 : ws.getD k 0 = 0 ∨ ws.getD k 0 = 1 := L.sol.r01 k hkn
    rw [ew] at hw01
    have hu : IntKind.u8.wrap (1 - w) = 1 - w := by rcases hw01 with rfl | rfl <;> rfl
    have lws : (ws.set k (1 - w)).length = ow.length := by simp [lw]
    have fc : ∀ y : Int, (o = 1 - w → y ∈ row) → (¬ o = 1 - w → y = -1) → FormP ow pr su (ws.set k (1 - w)) (ss.set k y) ∧ ¬ CorrP ow pr su (ws.set k (1 - w)) (ss.set k y) := fun y h1 h2 => by
      have F := rej_form V c1 L hkn (y := y) (by rw [eo, ew, er]; exact h1) (by rw [eo, ew]; exact h2)
      have C := rej_ncorr V ho L hkn F (by rw [eo, ew, er]; exact h1)
      rw [ew] at F C
      exact ⟨F, C⟩
    simp only [PP, P1, P2, P3, P4, P5, P6, P7, P8, P9, P10, P11, P12, P13, P14, L1, P15, N1, N2, N3, N4, N5, N6, N7, I1, I2, I3, I4, I5, I6, I7, reduceIte, reduceCtorEq]
    refine SemW_seq (SemW_of ?_)
    simp only [PP, P1, P2, P3, P4, P5, P6, P7, P8, P9, P10, P11, P12, P13, P14, L1, P15, N1, N2, N3, N4, N5, N6, N7, I1, I2, I3, I4, I5, I6, I7, reduceIte, reduceCtorEq, cn, lw, ls]
    refine SemW_seq (SemW_of ?_)
    simp only [PP, P1, P2, P3, P4, P5, P6, P7, P8, P9, P10, P11, P12, P13, P14, L1, P15, N1, N2, N3, N4, N5, N6, N7, I1, I2, I3, I4, I5, I6, I7, reduceIte, reduceCtorEq, cn, w0, prem cn, hk]
    refine SemW_seq (SemW_of ?_)
    simp only [PP, P1, P2, P3, P4, P5, P6, P7, P8, P9, P10, P11, P12, P13, P14, L1, P15, N1, N2, N3, N4, N5, N6, N7, I1, I2, I3, I4, I5, I6, I7, reduceIte, reduceCtorEq, k0, k1, k2, g1, lw]
    refine SemW_seq (SemW_of ?_)
    simp only [PP, P1, P2, P3, P4, P5, P6, P7, P8, P9, P10, P11, P12, P13, P14, L1, P15, N1, N2, N3, N4, N5, N6, N7, I1, I2, I3, I4, I5, I6, I7, reduceIte, reduceCtorEq, k0, k1, k2, hu, lw, ← List.map_set]
    refine SemW_seq (SemW_of ?_)
    simp only [PP, P1, P2, P3, P4, P5, P6, P7, P8, P9, P10, P11, P12, P13, P14, L1, P15, N1, N2, N3, N4, N5, N6, N7, I1, I2, I3, I4, I5, I6, I7, reduceIte, reduceCtorEq, k0, k1, k2, ls, ← List.map_set]
    refine SemW_seq (SemW_of ?_)
    simp only [PP, P1, P2, P3, P4, P5, P6, P7, P8, P9, P10, P11, P12, P13, P14, L1, P15, N1, N2, N3, N4, N5, N6, N7, I1, I2, I3, I4, I5, I6, I7, reduceIte, reduceCtorEq, k0, k1, g2, hu]
    refine QIf.intro (fun d => ?_) (fun d => ?_)
    · have hrow : 0 < row.length := by
        obtain ⟨_, _, _, hr0, _⟩ := V.row k (by omega)
        rw [List.getElem?_eq_getElem (by omega)] at g3; cases g3; exact hr0
      have hrl : ¬ (row.length : Int) = 0 := by omega
      have t1 := Int.tmod_nonneg (a := x) (row.length : Int) hx0
      have t2 := Int.tmod_lt_of_pos x (b := (row.length : Int)) (by omega)
      obtain ⟨y, g4⟩ := some_of (xs := row) (k := (x.tmod (row.length : Int)).toNat) (by omega)
      have lys : (ss.set k y).length = ow.length := by simp [ls]
      obtain ⟨F, C⟩ := fc y (fun _ => List.mem_of_getElem? g4) (fun h => absurd d h)
      have hks : (k : Int) < su.length := by omega
      have hss : (ss.set k (-1)).set k y = ss.set k y := List.set_set ..
      simp only [PP, P1, P2, P3, P4, P5, P6, P7, P8, P9, P10, P11, P12, P13, P14, L1, P15, N1, N2, N3, N4, N5, N6, N7, I1, I2, I3, I4, I5, I6, I7, reduceIte, reduceCtorEq, d, k0, k1, k2, g3, hrl, w0, prem hrl, t1, t2, g4, hks, hs, ls, ← List.map_set, hss]
      refine SemW_re (GStep.freezeIn (b := [.junk, .junk, .cp [slI false false .u8 ow, slI false false .i64 pr, slR false false false false .i64 su] 0, .junk, .junk, .ptr 8 0 0, .junk, .junk, .junk, .junk, .junk, .junk, .junk, .junk, .junk, .junk, .junk, .junk, .junk, .junk, .junk, .junk, .junk, .junk, .junk, .junk, .junk, .junk, .junk, .junk, .junk, .junk, .junk, .junk, .junk, .junk, .junk, .junk, .junk, .junk, .junk, .junk, .junk, .junk, .junk, .junk, .junk, .junk, .junk, .junk, .junk, .junk, .junk, .junk, .junk, .junk, .junk, .junk, .junk, .junk, .junk, .junk, .junk, .junk, .junk, .junk, .junk, .junk, .junk, .junk, .junk, .junk, .junk, .junk, .junk, .junk, .junk, .junk, .junk, .junk, .junk, .junk, .junk, .junk, .junk, .junk, .junk, .junk, .junk, .junk, .junk, .junk, .junk, .junk, .junk, .junk, .junk, .junk, .junk, .junk, .junk, .junk, .junk, .junk, .junk, .junk, .junk, .junk, .junk, .junk, .junk, .junk, .junk, .junk, .junk, .junk, .junk, .junk, .junk, .junk, .junk, .junk, .junk, .junk, .junk, .junk, .junk, .junk, .junk, .junk]) 6 8 (Nat.zero_le _) rfl rfl (by omega) (by simp only [PFrz_nil, PFrz_junk, PFrz_same]) (cj2 := [slI false true .u8 (ws.set k (1 - w)), .ref 2 0 1 0 ow.length]) (by
        rw [PFrz_ref (by rw [List.length_map, lws]; omega) (by rw [Nat.mul_one, psub_all _ _ (by rw [List.length_map, lws])]; unfold slI; rw [lws])]
        simp only [PFrz_nil, PFrz_same]) rfl) ?_
      simp only [List.set_cons_zero, List.set_cons_succ]
      refine SemW_re (GStep.freezeIn (b := [.junk, .junk, .cp [slI false false .u8 ow, slI false false .i64 pr, slR false false false false .i64 su] 0, .junk, .junk, .ptr 8 0 0, .junk, .junk, .junk, .junk, .junk, .junk, .junk, .junk, .junk, .junk, .junk, .junk, .junk, .junk, .junk, .junk, .junk, .junk, .junk, .junk, .junk, .junk, .junk, .junk, .junk, .junk, .junk, .junk, .junk, .junk, .junk, .junk, .junk, .junk, .junk, .junk, .junk, .junk, .junk, .junk, .junk, .junk, .junk, .junk, .junk, .junk, .junk, .junk, .junk, .junk, .junk, .junk, .junk, .junk, .junk, .junk, .junk, .junk, .junk, .junk, .junk, .junk, .junk, .junk, .junk, .junk, .junk, .junk, .junk, .junk, .junk, .junk, .junk, .junk, .junk, .junk, .junk, .junk, .junk, .junk, .junk, .junk, .junk, .junk, .junk, .junk, .junk, .junk, .junk, .junk, .junk, .junk, .junk, .junk, .junk, .junk, .junk, .junk, .junk, .junk, .junk, .junk, .junk, .junk, .junk, .junk, .junk, .junk, .junk, .junk, .junk, .junk, .junk, .junk, .junk, .junk, .junk, .junk, .junk, .junk, .junk, .junk, .junk, .junk]) 2 8 (Nat.zero_le _) rfl rfl (by omega) (by simp only [PFrz_nil, PFrz_junk, PFrz_same]) (cj2 := [slI false true .u8 (ws.set k (1 - w)), slI false true .i64 (ss.set k y)]) (by
        rw [PFrz_same, PFrz_ref (by rw [List.length_map, lys]; omega) (by rw [Nat.mul_one, psub_all _ _ (by rw [List.length_map, lys])]; unfold slI; rw [lys])]
        simp only [PFrz_nil]) rfl) ?_
      simp only [List.set_cons_zero, List.set_cons_succ]
      revert F C
      generalize (ws.set k (1 - w)) = wq at lws ⊢
      generalize (ss.set k y) = sq at lys ⊢
      intro F C
      refine SemW_of ?_
      simp only [PP, P1, P2, P3, P4, P5, P6, P7, P8, P9, P10, P11, P12, P13, P14, L1, P15, N1, N2, N3, N4, N5, N6, N7, I1, I2, I3, I4, I5, I6, I7, reduceIte, reduceCtorEq]
      refine refuteAll_p T B (fun e h0 he => absurd (he.zero.2 F) h0) (fun h => absurd h C) (fun p j lc stem F hp hL hS => ?_)
      obtain ⟨st, hst, RL⟩ := refL_of hL hS
      rcases hst with ⟨rfl, rfl⟩ | rfl
      · obtain ⟨xl, hxl⟩ : ∃ xl, xl = nI (j :: lc) := ⟨_, rfl⟩
        rw [← hxl]
        simp only [PP, P1, P2, P3, P4, P5, P6, P7, P8, P9, P10, P11, P12, P13, P14, L1, P15, N1, N2, N3, N4, N5, N6, N7, I1, I2, I3, I4, I5, I6, I7, reduceIte, reduceCtorEq]
        refine check33_p T B fun e3 hE3 => ?_
        obtain rfl := hE3.eq (.inr (.inl ⟨F, C, rfl⟩))
        simp only [PP, P1, P2, P3, P4, P5, P6, P7, P8, P9, P10, P11, P12, P13, P14, L1, P15, N1, N2, N3, N4, N5, N6, N7, I1, I2, I3, I4, I5, I6, I7, reduceIte, reduceCtorEq]
        rw [hxl]
        refine refutesN_p T B F hp RL ?_
        simp only [PP, P1, P2, P3, P4, P5, P6, P7, P8, P9, P10, P11, P12, P13, P14, L1, P15, N1, N2, N3, N4, N5, N6, N7, I1, I2, I3, I4, I5, I6, I7, reduceIte, reduceCtorEq]
      · obtain ⟨xl, hxl⟩ : ∃ xl, xl = nI (j :: lc) := ⟨_, rfl⟩
        obtain ⟨sl, hsl⟩ : ∃ sl, sl = nI st := ⟨_, rfl⟩
        rw [← hxl, ← hsl]
        simp only [PP, P1, P2, P3, P4, P5, P6, P7, P8, P9, P10, P11, P12, P13, P14, L1, P15, N1, N2, N3, N4, N5, N6, N7, I1, I2, I3, I4, I5, I6, I7, reduceIte, reduceCtorEq]
        refine check33_p T B fun e3 hE3 => ?_
        obtain rfl := hE3.eq (.inr (.inl ⟨F, C, rfl⟩))
        simp only [PP, P1, P2, P3, P4, P5, P6, P7, P8, P9, P10, P11, P12, P13, P14, L1, P15, N1, N2, N3, N4, N5, N6, N7, I1, I2, I3, I4, I5, I6, I7, reduceIte, reduceCtorEq]
        rw [hxl, hsl]
        refine refutes_p T B F hp RL ?_
        simp only [PP, P1, P2, P3, P4, P5, P6, P7, P8, P9, P10, P11, P12, P13, P14, L1, P15, N1, N2, N3, N4, N5, N6, N7, I1, I2, I3, I4, I5, I6, I7, reduceIte, reduceCtorEq]
    · have lys : (ss.set k (-1)).length = ow.length := by simp [ls]
      obtain ⟨F, C⟩ := fc (-1) (fun h => absurd h d) (fun _ => rfl)
      simp only [PP, P1, P2, P3, P4, P5, P6, P7, P8, P9, P10, P11, P12, P13, P14, L1, P15, N1, N2, N3, N4, N5, N6, N7, I1, I2, I3, I4, I5, I6, I7, reduceIte, reduceCtorEq, d]
      refine SemW_re (GStep.freezeIn (b := [.junk, .junk, .cp [slI false false .u8 ow, slI false false .i64 pr, slR false false false false .i64 su] 0, .junk, .junk, .ptr 8 0 0, .junk, .junk, .junk, .junk, .junk, .junk, .junk, .junk, .junk, .junk, .junk, .junk, .junk, .junk, .junk, .junk, .junk, .junk, .junk, .junk, .junk, .junk, .junk, .junk, .junk, .junk, .junk, .junk, .junk, .junk, .junk, .junk, .junk, .junk, .junk, .junk, .junk, .junk, .junk, .junk, .junk, .junk, .junk, .junk, .junk, .junk, .junk, .junk, .junk, .junk, .junk, .junk, .junk, .junk, .junk, .junk, .junk, .junk, .junk, .junk, .junk, .junk, .junk, .junk, .junk, .junk, .junk, .junk, .junk, .junk, .junk, .junk, .junk, .junk, .junk, .junk, .junk, .junk, .junk, .junk, .junk, .junk, .junk, .junk, .junk, .junk, .junk, .junk, .junk, .junk, .junk, .junk, .junk, .junk, .junk, .junk, .junk, .junk, .junk, .junk, .junk, .junk, .junk, .junk, .junk, .junk, .junk, .junk, .junk, .junk, .junk, .junk, .junk, .junk, .junk, .junk, .junk, .junk, .junk, .junk, .junk, .junk, .junk, .junk]) 6 8 (Nat.zero_le _) rfl rfl (by omega) (by simp only [PFrz_nil, PFrz_junk, PFrz_same]) (cj2 := [slI false true .u8 (ws.set k (1 - w)), .ref 2 0 1 0 ow.length]) (by
        rw [PFrz_ref (by rw [List.length_map, lws]; omega) (by rw [Nat.mul_one, psub_all _ _ (by rw [List.length_map, lws])]; unfold slI; rw [lws])]
        simp only [PFrz_nil, PFrz_same]) rfl) ?_
      simp only [List.set_cons_zero, List.set_cons_succ]
      refine SemW_re (GStep.freezeIn (b := [.junk, .junk, .cp [slI false false .u8 ow, slI false false .i64 pr, slR false false false false .i64 su] 0, .junk, .junk, .ptr 8 0 0, .junk, .junk, .junk, .junk, .junk, .junk, .junk, .junk, .junk, .junk, .junk, .junk, .junk, .junk, .junk, .junk, .junk, .junk, .junk, .junk, .junk, .junk, .junk, .junk, .junk, .junk, .junk, .junk, .junk, .junk, .junk, .junk, .junk, .junk, .junk, .junk, .junk, .junk, .junk, .junk, .junk, .junk, .junk, .junk, .junk, .junk, .junk, .junk, .junk, .junk, .junk, .junk, .junk, .junk, .junk, .junk, .junk, .junk, .junk, .junk, .junk, .junk, .junk, .junk, .junk, .junk, .junk, .junk, .junk, .junk, .junk, .junk, .junk, .junk, .junk, .junk, .junk, .junk, .junk, .junk, .junk, .junk, .junk, .junk, .junk, .junk, .junk, .junk, .junk, .junk, .junk, .junk, .junk, .junk, .junk, .junk, .junk, .junk, .junk, .junk, .junk, .junk, .junk, .junk, .junk, .junk, .junk, .junk, .junk, .junk, .junk, .junk, .junk, .junk, .junk, .junk, .junk, .junk, .junk, .junk, .junk, .junk, .junk, .junk]) 2 8 (Nat.zero_le _) rfl rfl (by omega) (by simp only [PFrz_nil, PFrz_junk, PFrz_same]) (cj2 := [slI false true .u8 (ws.set k (1 - w)), slI false true .i64 (ss.set k (-1))]) (by
        rw [PFrz_same, PFrz_ref (by rw [List.length_map, lys]; omega) (by rw [Nat.mul_one, psub_all _ _ (by rw [List.length_map, lys])]; unfold slI; rw [lys])]
        simp only [PFrz_nil]) rfl) ?_
      simp only [List.set_cons_zero, List.set_cons_succ]
      revert F C
      generalize (ws.set k (1 - w)) = wq at lws ⊢
      generalize (ss.set k (-1)) = sq at lys ⊢
      intro F C
      refine SemW_of ?_
      simp only [PP, P1, P2, P3, P4, P5, P6, P7, P8, P9, P10, P11, P12, P13, P14, L1, P15, N1, N2, N3, N4, N5, N6, N7, I1, I2, I3, I4, I5, I6, I7, reduceIte, reduceCtorEq]
      refine refuteAll_p T B (fun e h0 he => absurd (he.zero.2 F) h0) (fun h => absurd h C) (fun p j lc stem F hp hL hS => ?_)
      obtain ⟨st, hst, RL⟩ := refL_of hL hS
      rcases hst with ⟨rfl, rfl⟩ | rfl
      · obtain ⟨xl, hxl⟩ : ∃ xl, xl = nI (j :: lc) := ⟨_, rfl⟩
        rw [← hxl]
        simp only [PP, P1, P2, P3, P4, P5, P6, P7, P8, P9, P10, P11, P12, P13, P14, L1, P15, N1, N2, N3, N4, N5, N6, N7, I1, I2, I3, I4, I5, I6, I7, reduceIte, reduceCtorEq]
        refine check33_p T B fun e3 hE3 => ?_
        obtain rfl := hE3.eq (.inr (.inl ⟨F, C, rfl⟩))
        simp only [PP, P1, P2, P3, P4, P5, P6, P7, P8, P9, P10, P11, P12, P13, P14, L1, P15, N1, N2, N3, N4, N5, N6, N7, I1, I2, I3, I4, I5, I6, I7, reduceIte, reduceCtorEq]
        rw [hxl]
        refine refutesN_p T B F hp RL ?_
        simp only [PP, P1, P2, P3, P4, P5, P6, P7, P8, P9, P10, P11, P12, P13, P14, L1, P15, N1, N2, N3, N4, N5, N6, N7, I1, I2, I3, I4, I5, I6, I7, reduceIte, reduceCtorEq]
      · obtain ⟨xl, hxl⟩ : ∃ xl, xl = nI (j :: lc) := ⟨_, rfl⟩
        obtain ⟨sl, hsl⟩ : ∃ sl, sl = nI st := ⟨_, rfl⟩
        rw [← hxl, ← hsl]
        simp only [PP, P1, P2, P3, P4, P5, P6, P7, P8, P9, P10, P11, P12, P13, P14, L1, P15, N1, N2, N3, N4, N5, N6, N7, I1, I2, I3, I4, I5, I6, I7, reduceIte, reduceCtorEq]
        refine check33_p T B fun e3 hE3 => ?_
        obtain rfl := hE3.eq (.inr (.inl ⟨F, C, rfl⟩))
        simp only [PP, P1, P2, P3, P4, P5, P6, P7, P8, P9, P10, P11, P12, P13, P14, L1, P15, N1, N2, N3, N4, N5, N6, N7, I1, I2, I3, I4, I5, I6, I7, reduceIte, reduceCtorEq]
        rw [hxl, hsl]
        refine refutes_p T B F hp RL ?_
        simp only [PP, P1, P2, P3, P4, P5, P6, P7, P8, P9, P10, P11, P12, P13, P14, L1, P15, N1, N2, N3, N4, N5, N6, N7, I1, I2, I3, I4, I5, I6, I7, reduceIte, reduceCtorEq]
theorem crejects_all (args : List AV) (h : H) (hs : ShVs [gameTy, .int .u8] args h) :
    ∃ n h', (run tab n).call 7 args h = some (.bool true, h') := by
  obtain ⟨a, b, rfl, ha, hb⟩ := shVs2 hs
  obtain ⟨ow, pr, su, r1, N⟩ := arg_game ha
  obtain ⟨x, rfl, r2, x0, x1⟩ := arg_int hb
  exact run_of_C (law_of_sem (.cons r1 (.cons r2 (.nil _))) (crejects_p T (fun x hx => (N.o x hx).1) x0 x1))
end
end Go.Am.Ar

