/- Contract: the reduction of a set of states (parity.Reduce$1), and what goes with it. -/
import Derived.Test.YtnjffhgmibhnoaaZielonkaReducedG2
import Derived.Test.YtnjffhgmibhnoaaZielonkaReducedG3
import Derived.Test.YtnjffhgmibhnoaaZielonkaReducedG1
import Derived.Test.YtnjffhgmibhnoaaPmC
import Derived.Test.YtnjffhgmibhnoaaZielonkaReducedG0
import Derived.Test.YtnjffhgmibhnoaaPmL
set_option linter.unusedVariables false
set_option linter.unusedSimpArgs false
set_option maxRecDepth 10000
namespace Go.Am.Ar
open Go.Am renaming pchk → P1, pold → P2, PKNo → P3, ppack → P4, PObj.under → P5, pput → P6, ptset → P7, ptget → P8, pev → P9, ofAV → P10, ofAV1 → P11, ppad → P12, pfill → P13, prepl → P14, AO.effect → P15
open List renaming replicate → L1
open Nat renaming reduceAdd → N1, reduceSub → N2, reduceMul → N3, reduceLT → N4, reduceLeDiff → N5, reduceEqDiff → N6, reduceBEq → N7
open Int renaming reduceToNat → I1, reduceLT → I2, reduceLE → I3, reduceEq → I4, reduceAdd → I5, reduceSub → I6, reduceNeg → I7
abbrev gC (n : Nat) (f1 o1 f2 o2 f3 o3 : Bool) (rows : List (List Int)) (pr : List Int) : List PV := [p64 n, .func (.func 36) [] [.cp (parC f1 o1 f2 o2 f3 o3 rows pr) 0]]
section
variable (M : Mem) (x y : PObj) (l : Mem) (i j : Nat)
theorem getT : (M.set i x ++ l)[M.length + j]? = l[j]? := by rw [List.getElem?_append_right (by simp)]; congr 1; simp
theorem setT : (M.set i x ++ l).set (M.length + j) y = M.set i x ++ l.set j y := by rw [List.set_append_right _ _ (by simp)]; congr 2; simp
theorem getT0 : (M.set i x ++ l)[M.length]? = l[0]? := getT M x l i 0
end
theorem cut_set {n i : Nat} {M : Mem} {x : PObj} (h : M.all (cutOk n) = true) (hx : cutOk n x = true) : (M.set i x).all (cutOk n) = true := by
  rw [List.all_eq_true] at h ⊢
  intro y hy
  rcases List.mem_or_eq_of_mem_set hy with q | q
  · exact h y q
  · subst q; exact hx
theorem set_same {M : Mem} {i : Nat} {o : PObj} (h : M[i]? = some o) : M.set i o = M := by
  obtain ⟨hi, rfl⟩ := List.getElem?_eq_some_iff.1 h
  exact List.set_getElem_self hi
theorem pcells_map (id : Nat) : pcells (.map id) = [.map id] := by simp [pcells]
theorem one_map (id : Nat) : (PV.map id).one = true := by simp [PV.one]
theorem under_map (m id : Nat) : (PV.map id).under m = decide (id < m) := by simp [PV.under]
theorem mpB_under (m : Nat) (l : List Nat) : underE m (mpB l) = true := by
  unfold underE mpB
  rw [List.all_map, List.all_eq_true]
  intro x _
  rfl
def cntS (n : Nat) (l : List Nat) : Nat := ((List.range n).filter fun v => decide (v ∈ l)).length
theorem cntS_lt {n s : Nat} {l l' : List Nat} (hs : s < n) (h0 : s ∈ l) (h1 : s ∉ l') (hk : ∀ v, v ∈ l' → v ∈ l) : cntS n l' < cntS n l := by
  unfold cntS
  rw [← filt_sub (p := fun v => decide (v ∈ l)) (q := fun v => decide (v ∈ l')) (List.range n) fun x _ hq => decide_eq_true (hk x (of_decide_eq_true hq))]
  refine List.length_filter_lt_length_iff_exists.2 ⟨s, ?_, ?_⟩
  · rw [List.mem_filter]; exact ⟨List.mem_range.2 hs, decide_eq_true h0⟩
  · simpa using h1
structure RI (S : Nat → List Nat) (R : Nat → Int) (qs : List (List Nat)) (n k : Nat) (out out' : List Int) (most : Int) (ks : Nat → Int) : Prop where
  lo : out'.length = n
  m0 : 0 ≤ most
  part : ∀ i, i < k → ∀ P, qs[i]? = some P → RSpec S R (fun v => v ∈ P) (gI out') (ks i)
  ge : ∀ i, i < k → ks i ≤ most
  le : most = 0 ∨ ∃ i, i < k ∧ most = ks i
  same : ∀ v, (∀ i, i < k → ∀ P, qs[i]? = some P → v ∉ P) → gI out' v = gI out v
section
variable {S : Nat → List Nat} {R : Nat → Int} {qs : List (List Nat)} {n k : Nat} {out out' out2 : List Int} {most kk : Int} {ks : Nat → Int} {P : List Nat}
theorem pair_at {qs : List (List Nat)} (h : qs.Pairwise fun P Q => ∀ v ∈ P, v ∉ Q) {i j : Nat} {P Q : List Nat} (hij : i < j) (hP : qs[i]? = some P) (hQ : qs[j]? = some Q) : ∀ v ∈ P, v ∉ Q := by
  rw [List.pairwise_iff_getElem] at h
  obtain ⟨hi, rfl⟩ := List.getElem?_eq_some_iff.1 hP
  obtain ⟨hj, rfl⟩ := List.getElem?_eq_some_iff.1 hQ
  exact h i j hi hj hij
theorem RI.step (I : RI S R qs n k out out' most ks) (hd : qs.Pairwise fun P Q => ∀ v ∈ P, v ∉ Q) (hP : qs[k]? = some P) (h1 : ∀ v, v ∉ P → gI out2 v = gI out' v) (h2 : RSpec S R (fun v => v ∈ P) (gI out2) kk) (hl : out2.length = n) :
    RI S R qs n (k + 1) out out2 (max most kk) (fun i => if i = k then kk else ks i) := by
  have m0 := I.m0
  refine ⟨hl, by omega, fun i hi Q hQ => ?_, fun i hi => ?_, ?_, fun v hv => ?_⟩
  · by_cases e : i = k
    · subst e
      rw [hP] at hQ; cases hQ
      simp only [if_true]; exact h2
    · simp only [if_neg e]
      exact (I.part i (by omega) Q hQ).congr fun v hv => h1 v (pair_at hd (by omega) hQ hP v hv)
  · show (if i = k then kk else ks i) ≤ _
    split
    · omega
    · have := I.ge i (by omega); omega
  · by_cases q : kk ≤ most
    · rw [show max most kk = most by omega]
      refine I.le.imp id fun ⟨i, hi, e⟩ => ⟨i, by omega, ?_⟩
      rw [if_neg (by omega)]; exact e
    · exact .inr ⟨k, by omega, by rw [if_pos rfl]; omega⟩
  · rw [h1 v (hv k (by omega) P hP), I.same v fun i hi => hv i (by omega)]
theorem RI.fin {l : List Nat} (I : RI S R qs n qs.length out out' most ks) (Q : Parts n (fun v => decide (v ∈ l) = true) S qs) (hl : ∀ v ∈ l, v < n ∧ gI out v = 0) : RSpec S R (fun v => v ∈ l) (gI out') most := by
  refine RSpec.join (r := qs.length) (P := fun i v => ∃ P, qs[i]? = some P ∧ v ∈ P) (ks := ks) (fun i hi => ?_) (fun i hi v ⟨P, h1, h2⟩ => of_decide_eq_true (Q.sub P (List.mem_of_getElem? h1) v h2).2) (fun v hv => ?_) (fun c k hk hp hX hS => ?_) I.m0 I.ge I.le
  · obtain ⟨P, hP⟩ : ∃ P, qs[i]? = some P := ⟨_, List.getElem?_eq_getElem hi⟩
    have := I.part i hi P hP
    have e : (fun v => ∃ P, qs[i]? = some P ∧ v ∈ P) = fun v => v ∈ P := by
      funext v
      refine propext ⟨fun ⟨P', h1, h2⟩ => ?_, fun h => ⟨P, hP, h⟩⟩
      rw [hP] at h1; cases h1; exact h2
    show RSpec S R (fun v => ∃ P, qs[i]? = some P ∧ v ∈ P) _ _
    rw [e]; exact this
  · by_cases q : ∃ i, i < qs.length ∧ ∃ P, qs[i]? = some P ∧ v ∈ P
    · exact .inl q
    · refine .inr ?_
      rw [I.same v fun i hi P hP hm => q ⟨i, hi, P, hP, hm⟩]
      exact (hl v hv).2
  · obtain ⟨P, h1, h2⟩ := Q.cyc c k hk hp (fun i => ⟨(hl _ (hX i)).1, decide_eq_true (hX i)⟩) hS
    obtain ⟨i, hi⟩ := List.getElem?_of_mem h1
    exact ⟨i, (List.getElem?_eq_some_iff.1 hi).1, fun j => ⟨P, hi, h2 j⟩⟩
theorem RI.off {l : List Nat} (I : RI S R qs n k out out' most ks) (Q : Parts n (fun v => decide (v ∈ l) = true) S qs) (v : Nat) (hv : v ∉ l) : gI out' v = gI out v :=
  I.same v fun i hi P hP hm => hv (of_decide_eq_true (Q.sub P (List.mem_of_getElem? hP) v hm).2)
end
section
variable {tab : FuncId → Option AF} (T : HasA tab)
include T
set_option maxHeartbeats 1000000 in
theorem reduce_p {n aid sid oid : Nat} {f1 o1 f2 o2 f3 o3 : Bool} {rows : List (List Int)} {pr : List Int} (PO : ParOk n rows pr) (hai : aid < oid ∧ oid < sid) :
    ∀ (d : Nat) (M : Mem) (l : List Nat) (id ver vs vo va : Nat) (out : List Int) (K : PV → Mem → Prop), cntS n l < d → sid < M.length →
      M[sid]? = some (.cells 0 vs [.func (.func 19) [] [.cp (gC n f1 o1 f2 o2 f3 o3 rows pr) 0, .cp (parC f1 o1 f2 o2 f3 o3 rows pr) 0, .ptr sid 0 0, .ptr oid 0 0]]) →
      M[oid]? = some (.cells 0 vo [.ref aid 0 1 0 n]) → M[aid]? = some (.cells 0 va (out.map (PV.int .i64))) → M[id]? = some (.map ver (mpB l)) → (∀ m, M.length ≤ m → M.all (cutOk m) = true) →
      out.length = n → (∀ v ∈ l, v < n ∧ gI out v = 0) →
      (∀ (va' : Nat) (out' : List Int) (most : Int), RSpec (Sf rows) (zP pr) (fun v => v ∈ l) (gI out') most → (∀ v, v ∉ l → gI out' v = gI out v) → out'.length = n → K (p64 most) (M.set aid (.cells 0 va' (out'.map (PV.int .i64))))) →
      SemC tab 19 [.map id, .cp (gC n f1 o1 f2 o2 f3 o3 rows pr) 0, .cp (parC f1 o1 f2 o2 f3 o3 rows pr) 0, .ptr sid 0 0, .ptr oid 0 0] M K := by
  intro d
  induction d with
  | zero => intro M l id ver vs vo va out K h; omega
  | succ d IH =>
  intro M l id ver vs vo va out K hcnt hsid hS hO hOut hid hc hlo hl hk
  obtain ⟨n0, n1, lr, lp, hrow, hpri⟩ := PO
  have hidl := getSome_lt hid
  refine SemC_res (SemC_sem T.h19 ?_)
  simp only [af19]
  refine SemW_seq (SemW_of ?_)
  simp only [PP, P1, P2, P3, P4, P5, P6, P7, P8, P9, P10, P11, P12, P13, P14, L1, P15, N1, N2, N3, N4, N5, N6, N7, I1, I2, I3, I4, I5, I6, I7, reduceIte, reduceCtorEq, List.append_assoc, getK, getK0, setK, setK0, pcells_map, one_map]
  refine SemW_seq (SemW_of ?_)
  simp only [PP, P1, P2, P3, P4, P5, P6, P7, P8, P9, P10, P11, P12, P13, P14, L1, P15, N1, N2, N3, N4, N5, N6, N7, I1, I2, I3, I4, I5, I6, I7, reduceIte, reduceCtorEq, List.append_assoc, getK, getK0, setK, setK0]
  have hS0 := getSome_lt hS
  have hO0 := getSome_lt hO
  have hA0 := getSome_lt hOut
  have hidn : id ≠ aid := by rintro rfl; rw [hOut] at hid; cases hid
  have getN : ∀ {i : Nat} {o : PObj} (x : PObj) (L : Mem), i ≠ aid → M[i]? = some o → (M.set aid x ++ L)[i]? = some o := fun {i o} x L h1 h2 => by
    rw [List.getElem?_append_left (by rw [List.length_set]; exact getSome_lt h2), List.getElem?_set_ne (Ne.symm h1)]; exact h2
  have getA : ∀ (x : PObj) (L : Mem), (M.set aid x ++ L)[aid]? = some x := fun x L => by
    rw [List.getElem?_append_left (by rw [List.length_set]; exact hA0), List.getElem?_set_self hA0]
  have setA : ∀ (x y : PObj) (L : Mem), (M.set aid x ++ L).set aid y = M.set aid y ++ L := fun x y L => by
    rw [List.set_append_left _ _ (by rw [List.length_set]; exact hA0), List.set_set]
  have hbox : ∀ m, M.length < m → cutOk m (.cells 0 0 [.map id]) = true := fun m hm => by
    have : id < m := by omega
    simp only [cutOk, PP, P1, P2, P3, P4, P5, P6, P7, P8, P9, P10, P11, P12, P13, P14, L1, P15, N1, N2, N3, N4, N5, N6, N7, I1, I2, I3, I4, I5, I6, I7, reduceIte, reduceCtorEq, under_map, this]
  refine components_p T (M := M ++ [.cells 0 0 [.map id]]) (A := fun v => decide (v ∈ l)) (by omega) lr (fun r hr => by show _ < 1000000000000; rw [(hrow r hr).1]; decide) (fun r hr => (hrow r hr).2) ?_ ?_ ?_ ?_
  · intro m hm
    simp only [List.length_append, List.length_cons, List.length_nil] at hm
    rw [List.all_append, hc m (by omega)]
    simp only [List.all_cons, List.all_nil, hbox m (by omega), Bool.and_self]
  · intro m hm
    simp only [List.length_append, List.length_cons, List.length_nil] at hm
    have : M.length < m := by omega
    simp only [PP, P1, P2, P3, P4, P5, P6, P7, P8, P9, P10, P11, P12, P13, P14, L1, P15, N1, N2, N3, N4, N5, N6, N7, I1, I2, I3, I4, I5, I6, I7, reduceIte, reduceCtorEq, this]
  · intro v hv L K' hK'
    refine inSet_p T (g := 0) (id := id) (b := M.length) (vb := 0) (ver := ver) (l := l) ?_ ?_ hK'
    · rw [List.append_assoc, getK0]; rfl
    · rw [List.append_assoc, List.getElem?_append_left hidl]; exact hid
  intro qs Q
  have hql := Q.len
  simp only [PP, P1, P2, P3, P4, P5, P6, P7, P8, P9, P10, P11, P12, P13, P14, L1, P15, N1, N2, N3, N4, N5, N6, N7, I1, I2, I3, I4, I5, I6, I7, reduceIte, reduceCtorEq, List.append_assoc, getK, getK0, setK, setK0]
  have hzP : ∀ v, v < n → 0 ≤ zP pr v ∧ zP pr v ≤ 16 := fun v hv => by
    obtain ⟨x, gx⟩ := some_of (xs := pr) (k := v) (by omega)
    rw [zP, getD_some gx]; exact hpri x (List.mem_of_getElem? gx)
  refine loop3 (fun (k : Nat) (most : Int) (N : Mem) => k ≤ qs.length ∧ ∃ (va : Nat) (out' : List Int) (ks : Nat → Int) (G : Mem), RI (Sf rows) (zP pr) qs n k out out' most ks ∧ (∀ m, G.all (cutOk m) = true) ∧ N = M.set aid (.cells 0 va (out'.map (PV.int .i64))) ++ (.cells 0 0 [.map id] :: G))
    (fun k most N => [.junk, .junk, .cp (parC f1 o1 f2 o2 f3 o3 rows pr) 0, .ptr sid 0 0, .ptr oid 0 0, .junk, p64 most, .junk, .junk, .junk, .junk, .junk, .junk, .junk, .junk, .junk, .junk, .junk, .junk, .junk, slR false true false true .i64 (qs.map nL), p64 qs.length, p64 k, .junk, .junk, .junk, .junk, .junk, .junk, .junk, .junk, .junk, .junk, .junk, .junk, .junk, .junk, .junk, .junk, .junk, .junk, .junk, .junk, .junk, .junk, .junk, .junk, .junk, .junk, .junk, .junk, .junk, .junk, .junk, .junk, .junk, .junk, .junk, .junk, .junk, .junk, .junk, .junk, .junk, .junk, .junk, .junk, .junk, .junk, .junk, .junk, .junk, .junk, .junk, .junk, .junk, .junk, .junk, .junk, .junk, .junk, .junk, .junk, .junk, .junk, .junk]) (fun k most N => N) (fun k _ _ => qs.length - k) 0 0 _ ⟨by omega, va, out, fun _ => 0, [], ⟨hlo, Int.le_refl _, fun i hi => by omega, fun i hi => by omega, .inl rfl, fun v _ => rfl⟩, fun m => rfl, rfl⟩ (by simp only [PWeak_nil, PWeak_junk, PWeak_same, Int.cast_ofNat_Int, List.length_append, List.length_cons, List.length_nil, Nat.zero_add]) (by rw [set_same hOut]) ?_
  rintro k most N ⟨hle, va, out', ks, G, I, hG, rfl⟩ ih
  have hlo' := I.lo
  have hm0 := I.m0
  refine SemW_go (by kernel_rfl) ?_
  simp only [PP, P1, P2, P3, P4, P5, P6, P7, P8, P9, P10, P11, P12, P13, P14, L1, P15, N1, N2, N3, N4, N5, N6, N7, I1, I2, I3, I4, I5, I6, I7, reduceIte, reduceCtorEq, PS_makeMap, PS_lookup, PS_mapUpdate, ZMp_map, ZLook_map, ZMapU_map, plook_st, plook_sf, plook_nt, plook_nf, mpE_find, List.append_assoc, getK, getK0, setK, setK0, getT, getT0, setT]
  refine QIf.intro (fun c => ?_) (fun c => ?_)
  rotate_left
  · have hkq : k = qs.length := by omega
    subst hkq
    simp only [PP, P1, P2, P3, P4, P5, P6, P7, P8, P9, P10, P11, P12, P13, P14, L1, P15, N1, N2, N3, N4, N5, N6, N7, I1, I2, I3, I4, I5, I6, I7, reduceIte, reduceCtorEq, PS_makeMap, PS_lookup, PS_mapUpdate, ZMp_map, ZLook_map, ZMapU_map, plook_st, plook_sf, plook_nt, plook_nf, mpE_find, List.append_assoc, getK, getK0, setK, setK0, getT, getT0, setT, c]
    refine SemW_of ?_
    simp only [PP, P1, P2, P3, P4, P5, P6, P7, P8, P9, P10, P11, P12, P13, P14, L1, P15, N1, N2, N3, N4, N5, N6, N7, I1, I2, I3, I4, I5, I6, I7, reduceIte, reduceCtorEq, PS_makeMap, PS_lookup, PS_mapUpdate, ZMp_map, ZLook_map, ZMapU_map, plook_st, plook_sf, plook_nt, plook_nf, mpE_find, List.append_assoc, getK, getK0, setK, setK0, getT, getT0, setT]
    refine ⟨p64 most, M.set aid (.cells 0 va (out'.map (PV.int .i64))), rfl, ?_, hk va out' most (I.fin Q hl) (I.off Q) hlo'⟩
    rw [List.take_left' (by simp)]
    exact pfrzM_all (cut_set (hc _ (Nat.le_refl _)) (by simp only [cutOk, underL_ints]))
  have hkq : k < qs.length := by omega
  have k0 : (0 : Int) ≤ k := by omega
  have hwk := wrap_succ (k := k) (by show _ < 1000000000000; omega)
  obtain ⟨P, gP⟩ := some_of (xs := qs) (k := k) hkq
  have gP2 : (qs.map nL)[k]? = some (nL P) := by rw [List.getElem?_map, gP]; rfl
  have hPm := List.mem_of_getElem? gP
  have hPl := Q.nd P hPm
  have hPs := Q.sub P hPm
  simp only [PP, P1, P2, P3, P4, P5, P6, P7, P8, P9, P10, P11, P12, P13, P14, L1, P15, N1, N2, N3, N4, N5, N6, N7, I1, I2, I3, I4, I5, I6, I7, reduceIte, reduceCtorEq, PS_makeMap, PS_lookup, PS_mapUpdate, ZMp_map, ZLook_map, ZMapU_map, plook_st, plook_sf, plook_nt, plook_nf, mpE_find, List.append_assoc, getK, getK0, setK, setK0, getT, getT0, setT, c, k0, gP2]
  refine loop2 (fun (j : Nat) (m : Int) => j ≤ P.length ∧ 0 ≤ m ∧ (∀ v ∈ P.take j, zP pr v ≤ m) ∧ (m = 0 ∨ ∃ v ∈ P.take j, zP pr v = m)) (fun j m => [.junk, .junk, .cp (parC f1 o1 f2 o2 f3 o3 rows pr) 0, .ptr sid 0 0, .ptr oid 0 0, .junk, p64 most, .junk, slI false true .i64 (nL P), p64 m, .junk, .junk, .junk, .junk, .junk, .junk, .junk, .junk, .junk, .junk, slR false true false true .i64 (qs.map nL), p64 qs.length, p64 k, .junk, .junk, .junk, slI false true .i64 (nL P), p64 P.length, p64 j, .junk, .junk, .junk, .junk, .junk, .junk, .junk, .junk, .junk, .junk, .junk, .junk, .junk, .junk, .junk, .junk, .junk, .junk, .junk, .junk, .junk, .junk, .junk, .junk, .junk, .junk, .junk, .junk, .junk, .junk, .junk, .junk, .junk, .junk, .junk, .junk, .junk, .junk, .junk, .junk, .junk, .junk, .junk, .junk, .junk, .junk, .junk, .junk, .junk, .junk, .junk, .junk, .junk, .junk, .junk, .junk, .junk]) (fun _ _ => M.set aid (.cells 0 va (out'.map (PV.int .i64))) ++ (.cells 0 0 [.map id] :: G)) (fun j _ => P.length - j) 0 0 ⟨by omega, Int.le_refl _, by simp, .inl rfl⟩ (by simp only [PWeak_nil, PWeak_junk, PWeak_same, Int.cast_ofNat_Int, List.length_append, List.length_cons, List.length_nil, Nat.zero_add]) rfl ?_
  intro j m ⟨hj, hm0', hmx, hmw⟩ ih2
  refine SemW_go (by kernel_rfl) ?_
  simp only [PP, P1, P2, P3, P4, P5, P6, P7, P8, P9, P10, P11, P12, P13, P14, L1, P15, N1, N2, N3, N4, N5, N6, N7, I1, I2, I3, I4, I5, I6, I7, reduceIte, reduceCtorEq, PS_makeMap, PS_lookup, PS_mapUpdate, ZMp_map, ZLook_map, ZMapU_map, plook_st, plook_sf, plook_nt, plook_nf, mpE_find, List.append_assoc, getK, getK0, setK, setK0, getT, getT0, setT]
  refine QIf.intro (fun c2 => ?_) (fun c2 => ?_)
  · have hj' : j < P.length := by omega
    have j0 : (0 : Int) ≤ j := by omega
    have hwj := wrap_succ (k := j) (by show _ < 1000000000000; omega)
    obtain ⟨v, gv⟩ := some_of (xs := P) (k := j) hj'
    have gv2 : (nL P)[j]? = some (v : Int) := by rw [List.getElem?_map, gv]; rfl
    have hv := (hPs v (List.mem_of_getElem? gv)).1
    obtain ⟨x, gx⟩ := some_of (xs := pr) (k := v) (by omega)
    have ex : zP pr v = x := getD_some gx
    have v0 : (0 : Int) ≤ v := by omega
    have vn : (v : Int) < pr.length := by omega
    have vn2 : v < pr.length := by omega
    simp only [PP, P1, P2, P3, P4, P5, P6, P7, P8, P9, P10, P11, P12, P13, P14, L1, P15, N1, N2, N3, N4, N5, N6, N7, I1, I2, I3, I4, I5, I6, I7, reduceIte, reduceCtorEq, PS_makeMap, PS_lookup, PS_mapUpdate, ZMp_map, ZLook_map, ZMapU_map, plook_st, plook_sf, plook_nt, plook_nf, mpE_find, List.append_assoc, getK, getK0, setK, setK0, getT, getT0, setT, c2, j0, gv2, v0, vn, vn2, gx, hwj]
    have htk : P.take (j + 1) = P.take j ++ [v] := by rw [List.take_add_one, gv]; rfl
    refine SemW_weak (ih2 (j + 1) (max m x) ⟨by omega, by omega, fun u hu => ?_, ?_⟩ (by omega)) (by simp only [PWeak_nil, PWeak_junk, PWeak_same, Int.cast_ofNat_Int, List.length_append, List.length_cons, List.length_nil, Nat.zero_add])
    · rw [htk] at hu
      rcases List.mem_append.1 hu with q | q
      · have := hmx u q; omega
      · rw [List.mem_singleton] at q; subst q; omega
    · rw [htk]
      by_cases q : x ≤ m
      · rw [show max m x = m by omega]
        exact hmw.imp (fun q => q) fun ⟨u, hu, e⟩ => ⟨u, List.mem_append.2 (.inl hu), e⟩
      · exact .inr ⟨v, by simp, by omega⟩
  have hjl : j = P.length := by omega
  subst hjl
  rw [List.take_of_length_le (Nat.le_refl _)] at hmx hmw
  have hex : ∃ v, v ∈ P ∧ zP pr v = m := by
    rcases hmw with q | ⟨v, h1, h2⟩
    · obtain ⟨v, hv⟩ := List.exists_mem_of_ne_nil P (Q.ne P hPm)
      have := hmx v hv
      have := (hzP v (hPs v hv).1).1
      exact ⟨v, hv, by omega⟩
    · exact ⟨v, h1, h2⟩
  simp only [PP, P1, P2, P3, P4, P5, P6, P7, P8, P9, P10, P11, P12, P13, P14, L1, P15, N1, N2, N3, N4, N5, N6, N7, I1, I2, I3, I4, I5, I6, I7, reduceIte, reduceCtorEq, PS_makeMap, PS_lookup, PS_mapUpdate, ZMp_map, ZLook_map, ZMapU_map, plook_st, plook_sf, plook_nt, plook_nf, mpE_find, List.append_assoc, getK, getK0, setK, setK0, getT, getT0, setT, c2]
  refine loop3 (fun (j ver2 : Nat) (rl : List Nat) => j ≤ P.length ∧ ∀ v, v ∈ rl ↔ v ∈ P.take j ∧ zP pr v < m) (fun j _ _ => [.junk, .junk, .cp (parC f1 o1 f2 o2 f3 o3 rows pr) 0, .ptr sid 0 0, .ptr oid 0 0, .junk, p64 most, .junk, slI false true .i64 (nL P), p64 m, .junk, .junk, .map (M.length + (G.length + 1)), .junk, .junk, .junk, .junk, .junk, .junk, .junk, slR false true false true .i64 (qs.map nL), p64 qs.length, p64 k, .junk, .junk, .junk, .junk, .junk, .junk, .junk, .junk, .junk, .junk, .junk, .junk, .junk, .junk, .junk, .junk, .junk, .junk, slI false true .i64 (nL P), p64 P.length, p64 j, .junk, .junk, .junk, .junk, .junk, .junk, .junk, .junk, .junk, .junk, .junk, .junk, .junk, .junk, .junk, .junk, .junk, .junk, .junk, .junk, .junk, .junk, .junk, .junk, .junk, .junk, .junk, .junk, .junk, .junk, .junk, .junk, .junk, .junk, .junk, .junk, .junk, .junk, .junk, .junk, .junk, .junk]) (fun _ ver2 rl => M.set aid (.cells 0 va (out'.map (PV.int .i64))) ++ (.cells 0 0 [.map id] :: (G ++ [.map ver2 (mpB rl)]))) (fun j _ _ => P.length - j) 0 0 [] ⟨by omega, by simp⟩ (by simp only [PWeak_nil, PWeak_junk, PWeak_same, Int.cast_ofNat_Int, List.length_append, List.length_cons, List.length_nil, Nat.zero_add]) rfl ?_
  intro j ver2 rl ⟨hj, hrl⟩ ih3
  refine SemW_go (by kernel_rfl) ?_
  simp only [PP, P1, P2, P3, P4, P5, P6, P7, P8, P9, P10, P11, P12, P13, P14, L1, P15, N1, N2, N3, N4, N5, N6, N7, I1, I2, I3, I4, I5, I6, I7, reduceIte, reduceCtorEq, PS_makeMap, PS_lookup, PS_mapUpdate, ZMp_map, ZLook_map, ZMapU_map, plook_st, plook_sf, plook_nt, plook_nf, mpE_find, List.append_assoc, getK, getK0, setK, setK0, getT, getT0, setT]
  refine QIf.intro (fun c3 => ?_) (fun c3 => ?_)
  · have hj' : j < P.length := by omega
    have j0 : (0 : Int) ≤ j := by omega
    have hwj := wrap_succ (k := j) (by show _ < 1000000000000; omega)
    obtain ⟨v, gv⟩ := some_of (xs := P) (k := j) hj'
    have gv2 : (nL P)[j]? = some (v : Int) := by rw [List.getElem?_map, gv]; rfl
    have hv := (hPs v (List.mem_of_getElem? gv)).1
    obtain ⟨x, gx⟩ := some_of (xs := pr) (k := v) (by omega)
    have ex : zP pr v = x := getD_some gx
    have v0 : (0 : Int) ≤ v := by omega
    have vn : (v : Int) < pr.length := by omega
    have vn2 : v < pr.length := by omega
    have htk : P.take (j + 1) = P.take j ++ [v] := by rw [List.take_add_one, gv]; rfl
    simp only [PP, P1, P2, P3, P4, P5, P6, P7, P8, P9, P10, P11, P12, P13, P14, L1, P15, N1, N2, N3, N4, N5, N6, N7, I1, I2, I3, I4, I5, I6, I7, reduceIte, reduceCtorEq, PS_makeMap, PS_lookup, PS_mapUpdate, ZMp_map, ZLook_map, ZMapU_map, plook_st, plook_sf, plook_nt, plook_nf, mpE_find, List.append_assoc, getK, getK0, setK, setK0, getT, getT0, setT, c3, j0, gv2, v0, vn, vn2, gx, hwj]
    refine QIf.intro (fun c4 => ?_) (fun c4 => ?_)
    · simp only [PP, P1, P2, P3, P4, P5, P6, P7, P8, P9, P10, P11, P12, P13, P14, L1, P15, N1, N2, N3, N4, N5, N6, N7, I1, I2, I3, I4, I5, I6, I7, reduceIte, reduceCtorEq, PS_makeMap, PS_lookup, PS_mapUpdate, ZMp_map, ZLook_map, ZMapU_map, plook_st, plook_sf, plook_nt, plook_nf, mpE_find, List.append_assoc, getK, getK0, setK, setK0, getT, getT0, setT, c4, mpB_find, hwj]
      refine SemW_to (ih3 (j + 1) (ver2 + 1) (if v ∈ rl then rl else rl ++ [v]) ⟨by omega, fun u => ?_⟩ (by omega)) (by simp only [PWeak_nil, PWeak_junk, PWeak_same, Int.cast_ofNat_Int, List.length_append, List.length_cons, List.length_nil, Nat.zero_add]) (by rw [mpB_put])
      have hin : u ∈ (if v ∈ rl then rl else rl ++ [v]) ↔ u ∈ rl ∨ u = v := by
        split
        · rename_i q; exact ⟨.inl, fun h => h.elim (fun z => z) (by rintro rfl; exact q)⟩
        · rw [List.mem_append, List.mem_singleton]
      rw [hin, htk, hrl, List.mem_append, List.mem_singleton]
      constructor
      · rintro (⟨h1, h2⟩ | rfl)
        · exact ⟨.inl h1, h2⟩
        · exact ⟨.inr rfl, by omega⟩
      · rintro ⟨h1 | h1, h2⟩
        · exact .inl ⟨h1, h2⟩
        · exact .inr h1
    · simp only [PP, P1, P2, P3, P4, P5, P6, P7, P8, P9, P10, P11, P12, P13, P14, L1, P15, N1, N2, N3, N4, N5, N6, N7, I1, I2, I3, I4, I5, I6, I7, reduceIte, reduceCtorEq, PS_makeMap, PS_lookup, PS_mapUpdate, ZMp_map, ZLook_map, ZMapU_map, plook_st, plook_sf, plook_nt, plook_nf, mpE_find, List.append_assoc, getK, getK0, setK, setK0, getT, getT0, setT, c4, hwj]
      refine SemW_weak (ih3 (j + 1) ver2 rl ⟨by omega, fun u => ?_⟩ (by omega)) (by simp only [PWeak_nil, PWeak_junk, PWeak_same, Int.cast_ofNat_Int, List.length_append, List.length_cons, List.length_nil, Nat.zero_add])
      rw [htk, hrl, List.mem_append, List.mem_singleton]
      exact ⟨fun ⟨h1, h2⟩ => ⟨.inl h1, h2⟩, fun ⟨h1, h2⟩ => ⟨h1.resolve_right (by rintro rfl; omega), h2⟩⟩
  have hjl : j = P.length := by omega
  subst hjl
  rw [List.take_of_length_le (Nat.le_refl _)] at hrl
  have gS' : ∀ (x : PObj) (L : Mem), (M.set aid x ++ L)[sid]? = _ := fun x L => getN x L (by omega) hS
  have gO' : ∀ (x : PObj) (L : Mem), (M.set aid x ++ L)[oid]? = _ := fun x L => getN x L (by omega) hO
  have hPA : ∀ v ∈ P, v ∈ l := fun v hv => of_decide_eq_true (hPs v hv).2
  have hd : cntS n rl < d := by
    obtain ⟨v, h1, h2⟩ := hex
    have := cntS_lt (l := l) (l' := rl) (hPs v h1).1 (hPA v h1) (fun q => by have := ((hrl v).1 q).2; omega) fun u hu => hPA u ((hrl u).1 hu).1
    omega
  have hmle : m ≤ 16 := by
    obtain ⟨v, h1, h2⟩ := hex
    have := (hzP v (hPs v h1).1).2
    omega
  simp only [PP, P1, P2, P3, P4, P5, P6, P7, P8, P9, P10, P11, P12, P13, P14, L1, P15, N1, N2, N3, N4, N5, N6, N7, I1, I2, I3, I4, I5, I6, I7, reduceIte, reduceCtorEq, PS_makeMap, PS_lookup, PS_mapUpdate, ZMp_map, ZLook_map, ZMapU_map, plook_st, plook_sf, plook_nt, plook_nf, mpE_find, List.append_assoc, getK, getK0, setK, setK0, getT, getT0, setT, c3, gS']
  refine IH (M.set aid (.cells 0 va (out'.map (PV.int .i64))) ++ (.cells 0 0 [.map id] :: (G ++ [.map ver2 (mpB rl)]))) rl (M.length + (G.length + 1)) ver2 vs vo va out' _ hd (by simp; omega) (gS' _ _) (gO' _ _) (getA _ _) (by rw [getT, List.getElem?_cons_succ, getK0]; rfl) ?_ hlo' ?_ ?_
  · intro z hz
    simp only [List.length_append, List.length_set, List.length_cons] at hz
    rw [List.all_append, cut_set (hc z (by omega)) (by simp only [cutOk, underL_ints]), List.all_cons, hbox z (by omega), List.all_append, hG z]
    simp only [List.all_cons, List.all_nil, cutOk, mpB_under, Bool.and_self]
  · intro v hv
    obtain ⟨h1, h2⟩ := (hrl v).1 hv
    refine ⟨(hPs v h1).1, ?_⟩
    rw [I.same v fun i hi P' hP' hm => pair_at Q.dis hi hP' gP v hm h1]
    exact (hl v (hPA v h1)).2
  intro va1 out1 k1 R1 E1 hl1
  rw [setA]
  have hk1 := R1.m0
  have hk1u : k1 ≤ 16 := R1.up 16 (by decide) fun v hv => (hzP v (hPs v ((hrl v).1 hv).1).1).2
  have hw1 : IntKind.i64.wrap (k1 + m) = k1 + m := wrap64 (by omega) (by omega)
  have ht : (k1 + m).tmod 2 = (k1 + m) % 2 := Int.tmod_eq_emod_of_nonneg (by omega)
  obtain ⟨kk, hkk⟩ : ∃ kk, kk = k1 + (k1 + m) % 2 := ⟨_, rfl⟩
  have hw2 : IntKind.i64.wrap (k1 + (k1 + m) % 2) = kk := by rw [hkk]; exact wrap64 (by omega) (by omega)
  have n20 : (2 : Int) ≠ 0 := by decide
  simp only [PP, P1, P2, P3, P4, P5, P6, P7, P8, P9, P10, P11, P12, P13, P14, L1, P15, N1, N2, N3, N4, N5, N6, N7, I1, I2, I3, I4, I5, I6, I7, reduceIte, reduceCtorEq, PS_makeMap, PS_lookup, PS_mapUpdate, ZMp_map, ZLook_map, ZMapU_map, plook_st, plook_sf, plook_nt, plook_nf, mpE_find, List.append_assoc, getK, getK0, setK, setK0, getT, getT0, setT, hw1, prem n20, ht, hw2]
  refine loop3 (fun (j va2 : Nat) (out2 : List Int) => j ≤ P.length ∧ out2.length = n ∧ ∀ u, gI out2 u = if u ∈ P.take j ∧ u ∉ rl then kk else gI out1 u) (fun j _ _ => [.junk, .junk, .cp (parC f1 o1 f2 o2 f3 o3 rows pr) 0, .ptr sid 0 0, .ptr oid 0 0, .junk, p64 most, .junk, .junk, .junk, .junk, .junk, .map (M.length + (G.length + 1)), .junk, .junk, p64 kk, .junk, .junk, .junk, .junk, slR false true false true .i64 (qs.map nL), p64 qs.length, p64 k, .junk, .junk, .junk, .junk, .junk, .junk, .junk, .junk, .junk, .junk, .junk, .junk, .junk, .junk, .junk, .junk, .junk, .junk, .junk, .junk, .junk, .junk, .junk, .junk, .junk, .junk, .junk, .junk, .junk, .junk, .junk, .junk, .junk, .junk, .junk, .junk, .junk, .junk, .junk, .junk, .junk, .junk, .junk, slI false true .i64 (nL P), p64 P.length, p64 j, .junk, .junk, .junk, .junk, .junk, .junk, .junk, .junk, .junk, .junk, .junk, .junk, .junk, .junk, .junk, .junk, .junk]) (fun _ va2 out2 => M.set aid (.cells 0 va2 (out2.map (PV.int .i64))) ++ (.cells 0 0 [.map id] :: (G ++ [.map ver2 (mpB rl)]))) (fun j _ _ => P.length - j) 0 va1 out1 ⟨by omega, hl1, fun u => by simp⟩ (by simp only [PWeak_nil, PWeak_junk, PWeak_same, Int.cast_ofNat_Int, List.length_append, List.length_cons, List.length_nil, Nat.zero_add]) rfl ?_
  intro j va2 out2 ⟨hj, hl2, ho2⟩ ih4
  refine SemW_go (by kernel_rfl) ?_
  simp only [PP, P1, P2, P3, P4, P5, P6, P7, P8, P9, P10, P11, P12, P13, P14, L1, P15, N1, N2, N3, N4, N5, N6, N7, I1, I2, I3, I4, I5, I6, I7, reduceIte, reduceCtorEq, PS_makeMap, PS_lookup, PS_mapUpdate, ZMp_map, ZLook_map, ZMapU_map, plook_st, plook_sf, plook_nt, plook_nf, mpE_find, List.append_assoc, getK, getK0, setK, setK0, getT, getT0, setT]
  refine QIf.intro (fun c4 => ?_) (fun c4 => ?_)
  · have hj' : j < P.length := by omega
    have j0 : (0 : Int) ≤ j := by omega
    have hwj := wrap_succ (k := j) (by show _ < 1000000000000; omega)
    obtain ⟨v, gv⟩ := some_of (xs := P) (k := j) hj'
    have gv2 : (nL P)[j]? = some (v : Int) := by rw [List.getElem?_map, gv]; rfl
    have hv := (hPs v (List.mem_of_getElem? gv)).1
    have v0 : (0 : Int) ≤ v := by omega
    have vn : (v : Int) < n := by omega
    have vn2 : v + 1 ≤ n := by omega
    have htk : P.take (j + 1) = P.take j ++ [v] := by rw [List.take_add_one, gv]; rfl
    simp only [PP, P1, P2, P3, P4, P5, P6, P7, P8, P9, P10, P11, P12, P13, P14, L1, P15, N1, N2, N3, N4, N5, N6, N7, I1, I2, I3, I4, I5, I6, I7, reduceIte, reduceCtorEq, PS_makeMap, PS_lookup, PS_mapUpdate, ZMp_map, ZLook_map, ZMapU_map, plook_st, plook_sf, plook_nt, plook_nf, mpE_find, List.append_assoc, getK, getK0, setK, setK0, getT, getT0, setT, c4, j0, gv2, mpB_find]
    by_cases q : v ∈ rl
    · simp only [PP, P1, P2, P3, P4, P5, P6, P7, P8, P9, P10, P11, P12, P13, P14, L1, P15, N1, N2, N3, N4, N5, N6, N7, I1, I2, I3, I4, I5, I6, I7, reduceIte, reduceCtorEq, PS_makeMap, PS_lookup, PS_mapUpdate, ZMp_map, ZLook_map, ZMapU_map, plook_st, plook_sf, plook_nt, plook_nf, mpE_find, List.append_assoc, getK, getK0, setK, setK0, getT, getT0, setT, q, hwj]
      refine SemW_to (ih4 (j + 1) va2 out2 ⟨by omega, hl2, fun u => ?_⟩ (by omega)) (by simp only [PWeak_nil, PWeak_junk, PWeak_same, Int.cast_ofNat_Int, List.length_append, List.length_cons, List.length_nil, Nat.zero_add]) rfl
      rw [ho2, htk]
      simp only [List.mem_append, List.mem_singleton]
      by_cases e : u = v
      · subst e; rw [if_neg (fun z => z.2 q), if_neg (fun z => z.2 q)]
      · simp only [e, or_false]
    · simp only [PP, P1, P2, P3, P4, P5, P6, P7, P8, P9, P10, P11, P12, P13, P14, L1, P15, N1, N2, N3, N4, N5, N6, N7, I1, I2, I3, I4, I5, I6, I7, reduceIte, reduceCtorEq, PS_makeMap, PS_lookup, PS_mapUpdate, ZMp_map, ZLook_map, ZMapU_map, plook_st, plook_sf, plook_nt, plook_nf, mpE_find, List.append_assoc, getK, getK0, setK, setK0, getT, getT0, setT, q, gO', getA, setA, v0, vn, vn2, hl2, hwj]
      refine SemW_to (ih4 (j + 1) (va2 + 1) (out2.set v kk) ⟨by omega, by simp [hl2], fun u => ?_⟩ (by omega)) (by simp only [PWeak_nil, PWeak_junk, PWeak_same, Int.cast_ofNat_Int, List.length_append, List.length_cons, List.length_nil, Nat.zero_add]) (by rw [List.map_set])
      rw [gI_set (by omega), ho2, htk]
      simp only [List.mem_append, List.mem_singleton]
      by_cases e : u = v
      · subst e; rw [if_pos rfl, if_pos ⟨.inr rfl, q⟩]
      · simp only [e, or_false, if_false]
  have hjl : j = P.length := by omega
  subst hjl
  rw [List.take_of_length_le (Nat.le_refl _)] at ho2
  simp only [PP, P1, P2, P3, P4, P5, P6, P7, P8, P9, P10, P11, P12, P13, P14, L1, P15, N1, N2, N3, N4, N5, N6, N7, I1, I2, I3, I4, I5, I6, I7, reduceIte, reduceCtorEq, PS_makeMap, PS_lookup, PS_mapUpdate, ZMp_map, ZLook_map, ZMapU_map, plook_st, plook_sf, plook_nt, plook_nf, mpE_find, List.append_assoc, getK, getK0, setK, setK0, getT, getT0, setT, c4, hwk]
  have R2 : RSpec (Sf rows) (zP pr) (fun v => v ∈ P) (gI out2) kk := by
    rw [hkk]
    refine RSpec.part hm0' hmx hex ((?_ : RSpec (Sf rows) (zP pr) (fun v => v ∈ P ∧ zP pr v < m) (gI out1) k1).congr fun v hv => ?_) fun v hv hn => ?_
    · have e : (fun v => v ∈ P ∧ zP pr v < m) = fun v => v ∈ rl := by
        funext v; exact propext (hrl v).symm
      rw [e]; exact R1
    · rw [ho2, if_neg (fun z => z.2 ((hrl v).2 hv))]
    · rw [ho2, if_pos ⟨hv, fun q => hn ((hrl v).1 q).2⟩, hkk]
  have E2 : ∀ v, v ∉ P → gI out2 v = gI out' v := fun v hv => by
    rw [ho2, if_neg (fun z => hv z.1)]
    exact E1 v fun q => hv ((hrl v).1 q).1
  refine SemW_to (ih (k + 1) (max most kk) _ ⟨by omega, va2, out2, _, G ++ [.map ver2 (mpB rl)], I.step Q.dis gP E2 R2 hl2, fun z => ?_, rfl⟩ (by omega)) (by simp only [PWeak_nil, PWeak_junk, PWeak_same, Int.cast_ofNat_Int, List.length_append, List.length_cons, List.length_nil, Nat.zero_add]) rfl
  rw [List.all_append, hG z]
  simp only [List.all_cons, List.all_nil, cutOk, mpB_under, Bool.and_self]
end
end Go.Am.Ar
set_option linter.unusedVariables false
set_option linter.unusedSimpArgs false
set_option maxRecDepth 10000
namespace Go.Am.Ar
open Go.Am renaming pchk → P1, pold → P2, PKNo → P3, ppack → P4, PObj.under → P5, pput → P6, ptset → P7, ptget → P8, pev → P9, ofAV → P10, ofAV1 → P11, ppad → P12, pfill → P13, prepl → P14, AO.effect → P15
open List renaming replicate → L1
open Nat renaming reduceAdd → N1, reduceSub → N2, reduceMul → N3, reduceLT → N4, reduceLeDiff → N5, reduceEqDiff → N6, reduceBEq → N7
open Int renaming reduceToNat → I1, reduceLT → I2, reduceLE → I3, reduceEq → I4, reduceAdd → I5, reduceSub → I6, reduceNeg → I7
theorem frzRw {g v n : Nat} {xs : List (List Int)} (h : xs.length = n) : frzO (some (.cells g v (xs.map (slI false true .i64)))) g 1 0 n = some (slR false true false true .i64 xs) := by
  subst h
  rw [frzO_cells (by simp) (underL_map _ _ (fun x => under_slI _ _ _ _ _ _ _) _), Nat.mul_one, psub_all _ _ (by simp)]
section
variable {tab : FuncId → Option AF} (T : HasA tab)
include T
theorem with_p {M : Mem} {K : PV → Mem → Prop} {f1 o1 f2 o2 f3 o3 : Bool} {rows : List (List Int)} {pr out : List Int} {g0 : FuncId} {cap : List PV} (lr : rows.length < 1000000000000) (hrow : ∀ r ∈ rows, r.length < big) (lo : out.length = rows.length) (hu : underL 0 cap = true)
    (hf : ∀ (v : Nat) (x : Int), out[v]? = some x → ∀ (M' : Mem) (K' : PV → Mem → Prop), K' (p64 x) M' → SemC tab g0 (p64 v :: cap) M' K')
    (hk : K (.agg (parC false true false true false true rows out)) M) :
    SemC tab 22 [.agg (parC f1 o1 f2 o2 f3 o3 rows pr), .func (.func g0) [] cap] M K := by
  refine SemC_pure T.h22 (by simp only [PP, P1, P2, P3, P4, P5, P6, P7, P8, P9, P10, P11, P12, P13, P14, L1, P15, N1, N2, N3, N4, N5, N6, N7, I1, I2, I3, I4, I5, I6, I7, reduceIte, reduceCtorEq, PV.under, hu]) ?_
  simp only [af22, PP, P1, P2, P3, P4, P5, P6, P7, P8, P9, P10, P11, P12, P13, P14, L1, P15, N1, N2, N3, N4, N5, N6, N7, I1, I2, I3, I4, I5, I6, I7, reduceIte, reduceCtorEq]
  refine SemW_re (GStep.nilbox 2 2 1 rfl rfl rfl) ?_
  refine SemW_re (GStep.nilbox 2 3 1 rfl rfl rfl) ?_
  refine loop6 (fun (k ver g v g' v' : Nat) => k ≤ rows.length)
    (fun k ver g v g' v' => [.junk, .func (.func g0) [] cap, .junk, .junk, .ptr 1 0 0, .ptr 2 0 0, .junk, .junk, .junk, .junk, .junk, .junk, .junk, .junk, slR f1 o1 f2 o2 .i64 rows, p64 rows.length, p64 k, .junk, .junk, .junk, .junk, .junk, .junk, .junk, .junk, .junk, .junk, .junk, .junk, .junk, .junk, .junk, .junk, .junk, .junk, .junk, .junk, .junk])
    (fun k ver g v g' v' => [.cells 0 0 (parC f1 o1 f2 o2 f3 o3 rows pr), .cells 0 0 [p64 0, p64 0, .nils, .nils], .cells 0 ver [p64 5, p64 0, .ref 3 g 1 0 k, .ref 4 g' 1 0 k], .cells g v ((rows.take k).map (slI false true .i64)), .cells g' v' ((out.take k).map (PV.int .i64))])
    (fun k _ _ _ _ _ => rows.length - k) 0 1 0 0 0 0 (by omega) (by simp only [PWeak_nil, PWeak_junk, PWeak_same, Int.cast_ofNat_Int, List.length_append, List.length_cons, List.length_nil, Nat.zero_add]) rfl ?_
  intro k ver g v g' v' hle ih
  refine SemW_go (by kernel_rfl) ?_
  simp only [PP, P1, P2, P3, P4, P5, P6, P7, P8, P9, P10, P11, P12, P13, P14, L1, P15, N1, N2, N3, N4, N5, N6, N7, I1, I2, I3, I4, I5, I6, I7, reduceIte, reduceCtorEq]
  refine QIf.intro (fun c => ?_) (fun c => ?_)
  · have hk' : k < rows.length := by omega
    have k0 : (0 : Int) ≤ k := by omega
    have hwk := wrap_succ (k := k) (by show _ < 1000000000000; omega)
    obtain ⟨r, g1⟩ := some_of (xs := rows) (k := k) hk'
    obtain ⟨x, g2⟩ := some_of (xs := out) (k := k) (by omega)
    have p1 : psub ((rows.take k).map (slI false true .i64)) 0 k = (rows.take k).map (slI false true .i64) := psub_all _ _ (by rw [List.length_map, List.length_take]; omega)
    have p2 : psub ((out.take k).map (PV.int .i64)) 0 k = (out.take k).map (PV.int .i64) := psub_all _ _ (by rw [List.length_map, List.length_take]; omega)
    have q1 : (rows.take k).map (slI false true .i64) ++ [slI false true .i64 r] = (rows.take (k + 1)).map (slI false true .i64) := by rw [List.take_add_one, g1, List.map_append]; rfl
    have q2 : (out.take k).map (PV.int .i64) ++ [p64 x] = (out.take (k + 1)).map (PV.int .i64) := by rw [List.take_add_one, g2, List.map_append]; rfl
    have l1 : k ≤ (rows.take k).length := by rw [List.length_take]; omega
    have l2 : k ≤ (out.take k).length := by rw [List.length_take]; omega
    have c24 : (k + 1) * 24 ≤ 140737488355328 := by omega
    have c8 : (k + 1) * 8 ≤ 140737488355328 := by omega
    have c1 : k + 1 ≤ 9223372036854775807 := by omega
    simp only [PP, P1, P2, P3, P4, P5, P6, P7, P8, P9, P10, P11, P12, P13, P14, L1, P15, N1, N2, N3, N4, N5, N6, N7, I1, I2, I3, I4, I5, I6, I7, reduceIte, reduceCtorEq, c, k0, g1]
    refine clone_p T (hrow r (List.mem_of_getElem? g1)) ?_
    simp only [PP, P1, P2, P3, P4, P5, P6, P7, P8, P9, P10, P11, P12, P13, P14, L1, P15, N1, N2, N3, N4, N5, N6, N7, I1, I2, I3, I4, I5, I6, I7, reduceIte, reduceCtorEq, p1, l1, c24, c1]
    refine hf k x g2 _ _ ?_
    simp only [PP, P1, P2, P3, P4, P5, P6, P7, P8, P9, P10, P11, P12, P13, P14, L1, P15, N1, N2, N3, N4, N5, N6, N7, I1, I2, I3, I4, I5, I6, I7, reduceIte, reduceCtorEq, p2, l2, c8, c1, hwk]
    exact SemW_to (ih (k + 1) (ver + 1 + 1) (g + 1) 0 (g' + 1) 0 hk' (by omega)) (by simp only [PWeak_nil, PWeak_junk, PWeak_same, Int.cast_ofNat_Int, List.length_append, List.length_cons, List.length_nil, Nat.zero_add]) (by rw [q1, q2])
  · have hkn : k = rows.length := by omega
    subst hkn
    have t1 : rows.take rows.length = rows := List.take_of_length_le (Nat.le_refl _)
    have t2 : out.take rows.length = out := List.take_of_length_le (by omega)
    simp only [PP, P1, P2, P3, P4, P5, P6, P7, P8, P9, P10, P11, P12, P13, P14, L1, P15, N1, N2, N3, N4, N5, N6, N7, I1, I2, I3, I4, I5, I6, I7, reduceIte, reduceCtorEq, c, t1, t2, frzRw rfl, frzI lo]
    exact hk
end
end Go.Am.Ar
set_option linter.unusedVariables false
set_option linter.unusedSimpArgs false
set_option maxRecDepth 10000
namespace Go.Am.Ar
open Go.Am renaming pchk → P1, pold → P2, PKNo → P3, ppack → P4, PObj.under → P5, pput → P6, ptset → P7, ptget → P8, pev → P9, ofAV → P10, ofAV1 → P11, ppad → P12, pfill → P13, prepl → P14, AO.effect → P15
open List renaming replicate → L1
open Nat renaming reduceAdd → N1, reduceSub → N2, reduceMul → N3, reduceLT → N4, reduceLeDiff → N5, reduceEqDiff → N6, reduceBEq → N7
open Int renaming reduceToNat → I1, reduceLT → I2, reduceLE → I3, reduceEq → I4, reduceAdd → I5, reduceSub → I6, reduceNeg → I7
section
variable {tab : FuncId → Option AF} (T : HasA tab)
include T
theorem of_p {M : Mem} {K : PV → Mem → Prop} {f1 o1 f2 o2 f3 o3 : Bool} {rows : List (List Int)} {pr : List Int} (hk : K (.agg (gC rows.length f1 o1 f2 o2 f3 o3 rows pr)) M) :
    SemC tab 18 [.agg (parC f1 o1 f2 o2 f3 o3 rows pr)] M K := by
  refine SemC_pureS T.h18 (by simp only [PP, P1, P2, P3, P4, P5, P6, P7, P8, P9, P10, P11, P12, P13, P14, L1, P15, N1, N2, N3, N4, N5, N6, N7, I1, I2, I3, I4, I5, I6, I7, reduceIte, reduceCtorEq, PV.under]) ?_
  simp only [af18]
  refine SemW_seq (SemW_of ?_)
  simp only [PP, P1, P2, P3, P4, P5, P6, P7, P8, P9, P10, P11, P12, P13, P14, L1, P15, N1, N2, N3, N4, N5, N6, N7, I1, I2, I3, I4, I5, I6, I7, reduceIte, reduceCtorEq]
  refine SemW_re (GStep.freezeP (b := [.junk, .cp (parC f1 o1 f2 o2 f3 o3 rows pr) 0, .ptr 1 0 0, .junk, .junk, .junk, .junk, .junk]) 0 (Nat.zero_le _) rfl (by simp only [PFrzP_nil, PFrzP_junk, PFrzP_same, PFrzP_ptr]) rfl) ?_
  refine SemW_of ?_
  have e : ∀ N, pfrz1 0 N (.func (.func 36) [] [.cp (parC f1 o1 f2 o2 f3 o3 rows pr) 0]) = some (.func (.func 36) [] [.cp (parC f1 o1 f2 o2 f3 o3 rows pr) 0]) := fun N => pfrz1_func' (by simp only [PP, P1, P2, P3, P4, P5, P6, P7, P8, P9, P10, P11, P12, P13, P14, L1, P15, N1, N2, N3, N4, N5, N6, N7, I1, I2, I3, I4, I5, I6, I7, reduceIte, reduceCtorEq, PV.under])
  simp only [PP, P1, P2, P3, P4, P5, P6, P7, P8, P9, P10, P11, P12, P13, P14, L1, P15, N1, N2, N3, N4, N5, N6, N7, I1, I2, I3, I4, I5, I6, I7, reduceIte, reduceCtorEq, e]
  exact hk
set_option maxHeartbeats 1000000 in
theorem reduceA_p {M : Mem} {K : PV → Mem → Prop} {n : Nat} {f1 o1 f2 o2 f3 o3 : Bool} {rows : List (List Int)} {pr : List Int} (PO : ParOk n rows pr)
    (hk : ∀ (out : List Int) (most : Int), out.length = n → RSpec (Sf rows) (zP pr) (fun v => v < n) (zP out) most → K (.tuple [.agg (parC false true false true false true rows out), p64 0]) M) :
    SemC tab 9 [.agg (parC f1 o1 f2 o2 f3 o3 rows pr)] M K := by
  have PO' := PO
  obtain ⟨n0, n1, lr, lp, hrow, hpri⟩ := PO'
  subst lr
  have b0 : (0 : Int) ≤ rows.length := by omega
  have b1 : (rows.length : Int) * 8 ≤ 140737488355328 := by omega
  have b2 : (rows.length : Int) ≤ 9223372036854775807 := by omega
  refine SemC_pureS T.h9 (by simp only [PP, P1, P2, P3, P4, P5, P6, P7, P8, P9, P10, P11, P12, P13, P14, L1, P15, N1, N2, N3, N4, N5, N6, N7, I1, I2, I3, I4, I5, I6, I7, reduceIte, reduceCtorEq, PV.under]) ?_
  simp only [af9]
  refine SemW_seq (SemW_of ?_)
  simp only [PP, P1, P2, P3, P4, P5, P6, P7, P8, P9, P10, P11, P12, P13, P14, L1, P15, N1, N2, N3, N4, N5, N6, N7, I1, I2, I3, I4, I5, I6, I7, reduceIte, reduceCtorEq]
  refine SemW_seq (SemW_of ?_)
  simp only [PP, P1, P2, P3, P4, P5, P6, P7, P8, P9, P10, P11, P12, P13, P14, L1, P15, N1, N2, N3, N4, N5, N6, N7, I1, I2, I3, I4, I5, I6, I7, reduceIte, reduceCtorEq]
  refine parCheck_p T PO ?_
  simp only [PP, P1, P2, P3, P4, P5, P6, P7, P8, P9, P10, P11, P12, P13, P14, L1, P15, N1, N2, N3, N4, N5, N6, N7, I1, I2, I3, I4, I5, I6, I7, reduceIte, reduceCtorEq]
  refine SemW_seq (SemW_of ?_)
  simp only [PP, P1, P2, P3, P4, P5, P6, P7, P8, P9, P10, P11, P12, P13, P14, L1, P15, N1, N2, N3, N4, N5, N6, N7, I1, I2, I3, I4, I5, I6, I7, reduceIte, reduceCtorEq]
  refine ⟨⟨b0, Int.le_refl _, b1, b2⟩, ?_⟩
  refine SemW_re (GStep.freezeP (b := [.junk, .cp (parC f1 o1 f2 o2 f3 o3 rows pr) 0, .ptr 1 0 0, p64 0, .junk, .ptr 3 0 0, .junk, .junk, .junk, .junk, .junk, .junk, .junk, .junk, .junk, .junk, .junk, .junk, .junk, .junk, .junk, .junk, .junk, .junk, .junk, .junk, .junk, .junk, .junk, .junk, .junk, .junk, .junk, .junk, .junk, .junk, .junk, .junk, .junk]) 0 (Nat.zero_le _) rfl (by simp only [PFrzP_nil, PFrzP_junk, PFrzP_same, PFrzP_ptr]) rfl) ?_
  refine SemW_seq (SemW_of ?_)
  simp only [PP, P1, P2, P3, P4, P5, P6, P7, P8, P9, P10, P11, P12, P13, P14, L1, P15, N1, N2, N3, N4, N5, N6, N7, I1, I2, I3, I4, I5, I6, I7, reduceIte, reduceCtorEq]
  refine of_p T ?_
  simp only [PP, P1, P2, P3, P4, P5, P6, P7, P8, P9, P10, P11, P12, P13, P14, L1, P15, N1, N2, N3, N4, N5, N6, N7, I1, I2, I3, I4, I5, I6, I7, reduceIte, reduceCtorEq]
  refine SemW_re (GStep.freezeP (b := [.junk, .cp (parC f1 o1 f2 o2 f3 o3 rows pr) 0, .ptr 1 0 0, p64 0, .junk, .ptr 3 0 0, .cp (gC rows.length f1 o1 f2 o2 f3 o3 rows pr) 0, .junk, .junk, .junk, .junk, .junk, .junk, .junk, .junk, .junk, .junk, .junk, .junk, .junk, .junk, .junk, .junk, .junk, .junk, .junk, .junk, .junk, .junk, .junk, .junk, .junk, .junk, .junk, .junk, .junk, .junk, .junk, .junk]) 4 (Nat.zero_le _) rfl (by simp only [PFrzP_nil, PFrzP_junk, PFrzP_same, PFrzP_ptr]) rfl) ?_
  refine SemW_seq (SemW_of ?_)
  simp only [PP, P1, P2, P3, P4, P5, P6, P7, P8, P9, P10, P11, P12, P13, P14, L1, P15, N1, N2, N3, N4, N5, N6, N7, I1, I2, I3, I4, I5, I6, I7, reduceIte, reduceCtorEq]
  refine SemW_seq (SemW_of ?_)
  simp only [PP, P1, P2, P3, P4, P5, P6, P7, P8, P9, P10, P11, P12, P13, P14, L1, P15, N1, N2, N3, N4, N5, N6, N7, I1, I2, I3, I4, I5, I6, I7, reduceIte, reduceCtorEq]
  refine SemW_seq (SemW_of ?_)
  simp only [PP, P1, P2, P3, P4, P5, P6, P7, P8, P9, P10, P11, P12, P13, P14, L1, P15, N1, N2, N3, N4, N5, N6, N7, I1, I2, I3, I4, I5, I6, I7, reduceIte, reduceCtorEq, PS_makeMap, PS_lookup, PS_mapUpdate, ZMp_map, ZLook_map, ZMapU_map, plook_st, plook_sf, plook_nt, plook_nf, mpE_find]
  refine SemW_seq (SemW_of ?_)
  simp only [PP, P1, P2, P3, P4, P5, P6, P7, P8, P9, P10, P11, P12, P13, P14, L1, P15, N1, N2, N3, N4, N5, N6, N7, I1, I2, I3, I4, I5, I6, I7, reduceIte, reduceCtorEq, PS_makeMap, PS_lookup, PS_mapUpdate, ZMp_map, ZLook_map, ZMapU_map, plook_st, plook_sf, plook_nt, plook_nf, mpE_find]
  refine loop3 (fun (k ver : Nat) (l : List Nat) => k ≤ rows.length ∧ ∀ v, v ∈ l ↔ v < k) (fun k _ _ => [.junk, .cp (parC f1 o1 f2 o2 f3 o3 rows pr) 0, .ptr 1 0 0, .junk, .junk, .ptr 3 0 0, .junk, .ptr 5 0 0, .map 6, .junk, .junk, .junk, .junk, .junk, .junk, .junk, .junk, .junk, .junk, .junk, .junk, .junk, .junk, .junk, .junk, .junk, p64 rows.length, p64 k, .junk, .junk, .junk, .junk, .junk, .junk, .junk, .junk, .junk, .junk, .junk]) (fun _ ver l => [.gone, .cells 0 0 [p64 0, p64 0, .nils, .nils], .cells 0 0 ((List.replicate rows.length (0 : Int)).map (PV.int .i64)), .cells 0 1 [.ref 2 0 1 0 rows.length], .gone, .cells 0 1 [.func (.func 19) [] [.cp (gC rows.length f1 o1 f2 o2 f3 o3 rows pr) 0, .cp (parC f1 o1 f2 o2 f3 o3 rows pr) 0, .ptr 5 0 0, .ptr 3 0 0]], .map ver (mpB l)]) (fun k _ _ => rows.length - k) 0 0 [] ⟨by omega, fun v => by simp⟩ (by simp only [PWeak_nil, PWeak_junk, PWeak_same, Int.cast_ofNat_Int, List.length_append, List.length_cons, List.length_nil, Nat.zero_add]) (by rw [List.map_replicate]; rfl) ?_
  intro k ver l ⟨hle, hl⟩ ih
  refine SemW_go (by kernel_rfl) ?_
  simp only [PP, P1, P2, P3, P4, P5, P6, P7, P8, P9, P10, P11, P12, P13, P14, L1, P15, N1, N2, N3, N4, N5, N6, N7, I1, I2, I3, I4, I5, I6, I7, reduceIte, reduceCtorEq, PS_makeMap, PS_lookup, PS_mapUpdate, ZMp_map, ZLook_map, ZMapU_map, plook_st, plook_sf, plook_nt, plook_nf, mpE_find]
  refine QIf.intro (fun c => ?_) (fun c => ?_)
  · have hk' : k < rows.length := by omega
    have hwk := wrap_succ (k := k) (by show _ < 1000000000000; omega)
    simp only [PP, P1, P2, P3, P4, P5, P6, P7, P8, P9, P10, P11, P12, P13, P14, L1, P15, N1, N2, N3, N4, N5, N6, N7, I1, I2, I3, I4, I5, I6, I7, reduceIte, reduceCtorEq, PS_makeMap, PS_lookup, PS_mapUpdate, ZMp_map, ZLook_map, ZMapU_map, plook_st, plook_sf, plook_nt, plook_nf, mpE_find, c, mpB_find, hwk]
    refine SemW_to (ih (k + 1) (ver + 1) (if k ∈ l then l else l ++ [k]) ⟨by omega, fun u => ?_⟩ (by omega)) (by simp only [PWeak_nil, PWeak_junk, PWeak_same, Int.cast_ofNat_Int, List.length_append, List.length_cons, List.length_nil, Nat.zero_add]) (by rw [mpB_put])
    have hin : u ∈ (if k ∈ l then l else l ++ [k]) ↔ u ∈ l ∨ u = k := by
      split
      · rename_i q; exact ⟨.inl, fun h => h.elim (fun z => z) (by rintro rfl; exact q)⟩
      · rw [List.mem_append, List.mem_singleton]
    rw [hin, hl]; omega
  have hkl : k = rows.length := by omega
  subst hkl
  simp only [PP, P1, P2, P3, P4, P5, P6, P7, P8, P9, P10, P11, P12, P13, P14, L1, P15, N1, N2, N3, N4, N5, N6, N7, I1, I2, I3, I4, I5, I6, I7, reduceIte, reduceCtorEq, PS_makeMap, PS_lookup, PS_mapUpdate, ZMp_map, ZLook_map, ZMapU_map, plook_st, plook_sf, plook_nt, plook_nf, mpE_find, c]
  refine SemW_seq (SemW_of ?_)
  simp only [PP, P1, P2, P3, P4, P5, P6, P7, P8, P9, P10, P11, P12, P13, P14, L1, P15, N1, N2, N3, N4, N5, N6, N7, I1, I2, I3, I4, I5, I6, I7, reduceIte, reduceCtorEq, PS_makeMap, PS_lookup, PS_mapUpdate, ZMp_map, ZLook_map, ZMapU_map, plook_st, plook_sf, plook_nt, plook_nf, mpE_find]
  refine SemC_st (N := [.gone, .cells 0 0 [p64 0, p64 0, .nils, .nils], .cells 0 0 ((List.replicate rows.length (0 : Int)).map (PV.int .i64)), .cells 0 1 [.ref 2 0 1 0 rows.length], .gone, .cells 0 1 [.func (.func 19) [] [.cp (gC rows.length f1 o1 f2 o2 f3 o3 rows pr) 0, .cp (parC f1 o1 f2 o2 f3 o3 rows pr) 0, .ptr 5 0 0, .ptr 3 0 0]], .map ver (mpB l)]) (by simp only [PP, P1, P2, P3, P4, P5, P6, P7, P8, P9, P10, P11, P12, P13, P14, L1, P15, N1, N2, N3, N4, N5, N6, N7, I1, I2, I3, I4, I5, I6, I7, reduceIte, reduceCtorEq]) ?_
  refine reduce_p T PO (aid := 2) (sid := 5) (oid := 3) (by omega) (cntS rows.length l + 1) _ l 6 ver 1 1 0 (List.replicate rows.length 0) _ (by omega) (by simp) rfl rfl rfl rfl ?_ (by simp) (fun v hv => ⟨(hl v).1 hv, ?_⟩) ?_
  · intro m hm
    simp only [List.length_cons, List.length_nil] at hm
    have h5 : 5 < m := by omega
    have h2 : 2 < m := by omega
    have h3 : 3 < m := by omega
    simp only [List.all_cons, List.all_nil, cutOk, PP, P1, P2, P3, P4, P5, P6, P7, P8, P9, P10, P11, P12, P13, P14, L1, P15, N1, N2, N3, N4, N5, N6, N7, I1, I2, I3, I4, I5, I6, I7, reduceIte, reduceCtorEq, mpB_under, PV.under, h5, h2, h3]
  · rw [gI, List.getD, List.getElem?_replicate]; split <;> rfl
  intro va out most R E lo
  have e1 : (fun v => v ∈ l) = fun v => v < rows.length := by funext v; exact propext (hl v)
  rw [e1] at R
  simp only [PP, P1, P2, P3, P4, P5, P6, P7, P8, P9, P10, P11, P12, P13, P14, L1, P15, N1, N2, N3, N4, N5, N6, N7, I1, I2, I3, I4, I5, I6, I7, reduceIte, reduceCtorEq, PS_makeMap, PS_lookup, PS_mapUpdate, ZMp_map, ZLook_map, ZMapU_map, plook_st, plook_sf, plook_nt, plook_nf, mpE_find]
  refine SemW_re (GStep.freezeIn (b := [.junk, .cp (parC f1 o1 f2 o2 f3 o3 rows pr) 0, .ptr 1 0 0, .junk, .junk, .ptr 3 0 0, .junk, .junk, .junk, .junk, .junk, .junk, .junk, .junk, .junk, .junk, .junk, .junk, .junk, .junk, .junk, .junk, .junk, .junk, .junk, .junk, .junk, .junk, .junk, .junk, .junk, .junk, .junk, .junk, .junk, .junk, .junk, .junk, .junk]) 2 3 (Nat.zero_le _) rfl rfl (by omega) (by simp only [PFrz_nil, PFrz_junk, PFrz_same]) (cj2 := [slI false true .i64 out]) (by
    rw [PFrz_ref (by rw [List.length_map, lo]; omega) (by rw [Nat.mul_one, psub_all _ _ (by rw [List.length_map, lo])]; unfold slI; rw [lo])]
    simp only [PFrz_nil]) rfl) ?_
  simp only [List.set_cons_zero, List.set_cons_succ]
  refine SemW_re (GStep.freezeP (b := [.junk, .cp (parC f1 o1 f2 o2 f3 o3 rows pr) 0, .ptr 1 0 0, .junk, .junk, .cp [slI false true .i64 out] 0, .junk, .junk, .junk, .junk, .junk, .junk, .junk, .junk, .junk, .junk, .junk, .junk, .junk, .junk, .junk, .junk, .junk, .junk, .junk, .junk, .junk, .junk, .junk, .junk, .junk, .junk, .junk, .junk, .junk, .junk, .junk, .junk, .junk]) 3 (Nat.zero_le _) rfl (by simp only [PFrzP_nil, PFrzP_junk, PFrzP_same, PFrzP_ptr]) rfl) ?_
  refine SemW_of ?_
  simp only [PP, P1, P2, P3, P4, P5, P6, P7, P8, P9, P10, P11, P12, P13, P14, L1, P15, N1, N2, N3, N4, N5, N6, N7, I1, I2, I3, I4, I5, I6, I7, reduceIte, reduceCtorEq, PS_makeMap, PS_lookup, PS_mapUpdate, ZMp_map, ZLook_map, ZMapU_map, plook_st, plook_sf, plook_nt, plook_nf, mpE_find]
  refine with_p T (out := out) (by show _ < 1000000000000; omega) (fun r hr => by show _ < 1000000000000; rw [(hrow r hr).1]; decide) lo (by simp only [PP, P1, P2, P3, P4, P5, P6, P7, P8, P9, P10, P11, P12, P13, P14, L1, P15, N1, N2, N3, N4, N5, N6, N7, I1, I2, I3, I4, I5, I6, I7, reduceIte, reduceCtorEq, PV.under]) (fun v x g M' K' hK' => newPri_p T g hK') ?_
  simp only [PP, P1, P2, P3, P4, P5, P6, P7, P8, P9, P10, P11, P12, P13, P14, L1, P15, N1, N2, N3, N4, N5, N6, N7, I1, I2, I3, I4, I5, I6, I7, reduceIte, reduceCtorEq, PS_makeMap, PS_lookup, PS_mapUpdate, ZMp_map, ZLook_map, ZMapU_map, plook_st, plook_sf, plook_nt, plook_nf, mpE_find]
  exact hk out most lo R
end
end Go.Am.Ar
set_option linter.unusedVariables false
set_option linter.unusedSimpArgs false
set_option maxRecDepth 10000
namespace Go.Am.Ar
open Go.Am renaming pchk → P1, pold → P2, PKNo → P3, ppack → P4, PObj.under → P5, pput → P6, ptset → P7, ptget → P8, pev → P9, ofAV → P10, ofAV1 → P11, ppad → P12, pfill → P13, prepl → P14, AO.effect → P15
open List renaming replicate → L1
open Nat renaming reduceAdd → N1, reduceSub → N2, reduceMul → N3, reduceLT → N4, reduceLeDiff → N5, reduceEqDiff → N6, reduceBEq → N7
open Int renaming reduceToNat → I1, reduceLT → I2, reduceLE → I3, reduceEq → I4, reduceAdd → I5, reduceSub → I6, reduceNeg → I7
section
variable {tab : FuncId → Option AF} (T : HasA tab)
include T
end
end Go.Am.Ar
set_option linter.unusedVariables false
set_option linter.unusedSimpArgs false
set_option maxRecDepth 10000
namespace Go.Am.Ar
open Go.Am renaming pchk → P1, pold → P2, PKNo → P3, ppack → P4, PObj.under → P5, pput → P6, ptset → P7, ptget → P8, pev → P9, ofAV → P10, ofAV1 → P11, ppad → P12, pfill → P13, prepl → P14, AO.effect → P15
open List renaming replicate → L1
open Nat renaming reduceAdd → N1, reduceSub → N2, reduceMul → N3, reduceLT → N4, reduceLeDiff → N5, reduceEqDiff → N6, reduceBEq → N7
open Int renaming reduceToNat → I1, reduceLT → I2, reduceLE → I3, reduceEq → I4, reduceAdd → I5, reduceSub → I6, reduceNeg → I7
theorem rise_len : ∀ (l : List Int) (a n : Int), l.Pairwise (· < ·) → (∀ x ∈ l, a < x ∧ x < n) → l ≠ [] → (l.length : Int) ≤ n - a - 1
  | [], a, n, _, _, h => absurd rfl h
  | [x], a, n, _, hx, _ => by
    have := hx x (by simp)
    simp only [List.length_cons, List.length_nil]; omega
  | x :: y :: l, a, n, hp, hx, _ => by
    have h1 := List.pairwise_cons.1 hp
    have h2 := rise_len (y :: l) x n h1.2 (fun z hz => ⟨h1.1 z hz, (hx z (by simp [hz])).2⟩) (by simp)
    have h3 := hx x (by simp)
    rw [List.length_cons]; omega
def rowR (r : List Int) (k : Nat) : List Int := (List.range k).map fun x => r.getD (x % r.length) 0
section
variable {tab : FuncId → Option AF} (T : HasA tab)
include T
set_option maxHeartbeats 1000000 in
theorem zreduced_p {ow pr : List Int} {su : List (List Int)} (ho : ∀ x ∈ ow, 0 ≤ x) :
    SemC tab 3 [gmP false false false false false false false false ow pr su] [] fun r _ => r = .bool true := by
  refine SemC_fn T.h3 ?_
  simp only [af3, PP, P1, P2, P3, P4, P5, P6, P7, P8, P9, P10, P11, P12, P13, P14, L1, P15, N1, N2, N3, N4, N5, N6, N7, I1, I2, I3, I4, I5, I6, I7, reduceIte, reduceCtorEq]
  refine long0_p T ?_
  simp only [PP, P1, P2, P3, P4, P5, P6, P7, P8, P9, P10, P11, P12, P13, P14, L1, P15, N1, N2, N3, N4, N5, N6, N7, I1, I2, I3, I4, I5, I6, I7, reduceIte, reduceCtorEq]
  cases hl : longM ow pr su [] with
  | true =>
    simp only [PP, P1, P2, P3, P4, P5, P6, P7, P8, P9, P10, P11, P12, P13, P14, L1, P15, N1, N2, N3, N4, N5, N6, N7, I1, I2, I3, I4, I5, I6, I7, reduceIte, reduceCtorEq]
    refine SemC_true T.awake ?_
    simp only [PP, P1, P2, P3, P4, P5, P6, P7, P8, P9, P10, P11, P12, P13, P14, L1, P15, N1, N2, N3, N4, N5, N6, N7, I1, I2, I3, I4, I5, I6, I7, reduceIte, reduceCtorEq]
  | false =>
    have S := longM_false hl
    have B := S.bnd
    have so := S.o
    simp only [PP, P1, P2, P3, P4, P5, P6, P7, P8, P9, P10, P11, P12, P13, P14, L1, P15, N1, N2, N3, N4, N5, N6, N7, I1, I2, I3, I4, I5, I6, I7, reduceIte, reduceCtorEq]
    refine SemC_true T.awake ?_
    simp only [PP, P1, P2, P3, P4, P5, P6, P7, P8, P9, P10, P11, P12, P13, P14, L1, P15, N1, N2, N3, N4, N5, N6, N7, I1, I2, I3, I4, I5, I6, I7, reduceIte, reduceCtorEq]
    refine solve_p T B ho (fun c1 => ?_) (fun c1 ws ss L => ?_)
    · simp only [PP, P1, P2, P3, P4, P5, P6, P7, P8, P9, P10, P11, P12, P13, P14, L1, P15, N1, N2, N3, N4, N5, N6, N7, I1, I2, I3, I4, I5, I6, I7, reduceIte, reduceCtorEq, c1]
    have V := valid_of c1
    have hs := V.s
    have hp := V.p
    have n0 := V.n0
    simp only [PP, P1, P2, P3, P4, P5, P6, P7, P8, P9, P10, P11, P12, P13, P14, L1, P15, N1, N2, N3, N4, N5, N6, N7, I1, I2, I3, I4, I5, I6, I7, reduceIte, reduceCtorEq]
    refine refCheck_p T B ?_
    simp only [PP, P1, P2, P3, P4, P5, P6, P7, P8, P9, P10, P11, P12, P13, P14, L1, P15, N1, N2, N3, N4, N5, N6, N7, I1, I2, I3, I4, I5, I6, I7, reduceIte, reduceCtorEq, c1]
    refine copyInts_p T B.p ?_
    simp only [PP, P1, P2, P3, P4, P5, P6, P7, P8, P9, P10, P11, P12, P13, P14, L1, P15, N1, N2, N3, N4, N5, N6, N7, I1, I2, I3, I4, I5, I6, I7, reduceIte, reduceCtorEq]
    refine SemW_re (GStep.nilbox 2 2 1 rfl rfl rfl) ?_
    simp only [List.length_cons, List.length_nil, List.length_append, List.length_set, List.set_cons_zero, List.set_cons_succ, List.cons_append, List.nil_append, Nat.reduceAdd]
    refine SemW_gh ?_
    refine loop4 (fun (k ver g v : Nat) => k ≤ ow.length) (fun k ver g v => [.junk, .ptr 0 0 0, .junk, .ptr 1 0 0, .junk, .ptr 2 0 0, p64 k, .junk, .junk, .junk, .junk, .junk, .junk, .junk, .junk, .junk, .junk, .junk, .junk, .junk, .junk, .junk, .junk, .junk, .junk, .junk, .junk, .junk, .junk, .junk, .junk, .junk, .junk, .junk, .junk, .junk, .junk, .junk, .junk, .junk, .junk, .junk, .junk, .junk, .junk, .junk, .junk, .junk, .junk, .junk, .junk, .junk, .junk, .junk, .junk, .junk, .junk, .junk, .junk, .junk, .junk, .junk, .junk, .junk, .junk, .junk, .junk, .junk, .junk, .junk, .junk, .junk, .junk, .junk, .junk, .junk, .junk, .junk, .junk, .junk, .junk, .junk, .junk, .junk, .junk, .junk, .junk, .junk, .junk, .junk, .junk, .junk, .junk, .junk, .junk, .junk, .junk, .junk, .junk, .junk, .junk, .junk, .junk, .junk, .junk, .junk, .junk, .junk, .junk]) (fun k ver g v => [.cells 0 0 [slI false false .u8 ow, slI false false .i64 pr, slR false false false false .i64 su], .cells 0 1 [slI false true .u8 ws, slI false true .i64 ss], .cells 0 ver [p64 5, p64 0, .ref 3 g 1 0 k, slI false true .i64 pr], .cells g v (((su.take k).map fun r => rowR r 32).map (slI false true .i64))])
      (fun k _ _ _ => ow.length - k) 0 1 0 0 (by omega) (by simp only [PWeak_nil, PWeak_junk, PWeak_same, Int.cast_ofNat_Int, List.length_append, List.length_cons, List.length_nil, Nat.zero_add]) rfl ?_
    intro k ver g v hle ih
    refine SemW_go (by kernel_rfl) ?_
    simp only [PP, P1, P2, P3, P4, P5, P6, P7, P8, P9, P10, P11, P12, P13, P14, L1, P15, N1, N2, N3, N4, N5, N6, N7, I1, I2, I3, I4, I5, I6, I7, reduceIte, reduceCtorEq]
    refine QIf.intro (fun c => ?_) (fun c => ?_)
    · have hk' : k < ow.length := by omega
      obtain ⟨r, gr⟩ := some_of (xs := su) (k := k) (by omega)
      have h0 : (0 : Int) ≤ k := by omega
      have kn : (k : Int) < su.length := by omega
      have hwk := wrap_succ (k := k) (by show _ < 1000000000000; omega)
      obtain ⟨_, _, _, r0, rp⟩ := V.row k (by omega)
      have er : su[k]'(by omega) = r := by rw [List.getElem?_eq_getElem (by omega)] at gr; exact Option.some.inj gr
      rw [er] at r0 rp
      have rl := S.r r (List.mem_of_getElem? gr)
      simp only [PP, P1, P2, P3, P4, P5, P6, P7, P8, P9, P10, P11, P12, P13, P14, L1, P15, N1, N2, N3, N4, N5, N6, N7, I1, I2, I3, I4, I5, I6, I7, reduceIte, reduceCtorEq, c]
      refine SemW_gh ?_
      refine SemW_re (GStep.nil 7 1 rfl rfl rfl) ?_
      simp only [ptset, List.cons_append, List.nil_append, List.length_cons, List.length_nil, Nat.reduceAdd]
      refine loop3 (fun (j g2 v2 : Nat) => j ≤ 32) (fun j g2 v2 => [.junk, .ptr 0 0 0, .junk, .ptr 1 0 0, .junk, .ptr 2 0 0, p64 k, .ref 4 g2 1 0 j, p64 j, .junk, .junk, .junk, .junk, .junk, .junk, .junk, .junk, .junk, .junk, .junk, .junk, .junk, .junk, .junk, .junk, .junk, .junk, .junk, .junk, .junk, .junk, .junk, .junk, .junk, .junk, .junk, .junk, .junk, .junk, .junk, .junk, .junk, .junk, .junk, .junk, .junk, .junk, .junk, .junk, .junk, .junk, .junk, .junk, .junk, .junk, .junk, .junk, .junk, .junk, .junk, .junk, .junk, .junk, .junk, .junk, .junk, .junk, .junk, .junk, .junk, .junk, .junk, .junk, .junk, .junk, .junk, .junk, .junk, .junk, .junk, .junk, .junk, .junk, .junk, .junk, .junk, .junk, .junk, .junk, .junk, .junk, .junk, .junk, .junk, .junk, .junk, .junk, .junk, .junk, .junk, .junk, .junk, .junk, .junk, .junk, .junk, .junk, .junk, .junk]) (fun j g2 v2 => [.cells 0 0 [slI false false .u8 ow, slI false false .i64 pr, slR false false false false .i64 su], .cells 0 1 [slI false true .u8 ws, slI false true .i64 ss], .cells 0 ver [p64 5, p64 0, .ref 3 g 1 0 k, slI false true .i64 pr], .cells g v (((su.take k).map fun r => rowR r 32).map (slI false true .i64)), .cells g2 v2 ((rowR r j).map (PV.int .i64))]) (fun j _ _ => 32 - j) 0 0 0 (by omega) (by simp only [PWeak_nil, PWeak_junk, PWeak_same, Int.cast_ofNat_Int, List.length_append, List.length_cons, List.length_nil, Nat.zero_add]) rfl ?_
      intro j g2 v2 hj ih2
      refine SemW_go (by kernel_rfl) ?_
      simp only [PP, P1, P2, P3, P4, P5, P6, P7, P8, P9, P10, P11, P12, P13, P14, L1, P15, N1, N2, N3, N4, N5, N6, N7, I1, I2, I3, I4, I5, I6, I7, reduceIte, reduceCtorEq]
      refine QIf.intro (fun d => ?_) (fun d => ?_)
      · have hj' : j < 32 := by omega
        have j0 : (0 : Int) ≤ j := by omega
        have hwj := wrap_succ (k := j) (by show _ < 1000000000000; omega)
        have rn : (r.length : Int) ≠ 0 := by omega
        have et : (j : Int).tmod r.length = ((j % r.length : Nat) : Int) := by
          rw [Int.tmod_eq_emod_of_nonneg (by omega)]; rfl
        have hml : j % r.length < r.length := Nat.mod_lt _ r0
        have t0 : (0 : Int) ≤ ((j % r.length : Nat) : Int) := by omega
        have tl : ((j % r.length : Nat) : Int) < r.length := by omega
        obtain ⟨y, gy⟩ := some_of (xs := r) (k := j % r.length) hml
        have hps : psub ((rowR r j).map (PV.int .i64)) 0 j = (rowR r j).map (PV.int .i64) := psub_all _ _ (by simp [rowR])
        have hlj : j ≤ (rowR r j).length := by simp [rowR]
        have b8 : (j + 1) * 8 ≤ 140737488355328 := by omega
        have b1 : j + 1 ≤ 9223372036854775807 := by omega
        simp only [PP, P1, P2, P3, P4, P5, P6, P7, P8, P9, P10, P11, P12, P13, P14, L1, P15, N1, N2, N3, N4, N5, N6, N7, I1, I2, I3, I4, I5, I6, I7, reduceIte, reduceCtorEq, d, h0, kn, gr, prem rn, et, t0, tl, gy, hps, hlj, b8, b1, hwj]
        refine SemW_to (ih2 (j + 1) (g2 + 1) 0 (by omega) (by omega)) (by simp only [PWeak_nil, PWeak_junk, PWeak_same, Int.cast_ofNat_Int, List.length_append, List.length_cons, List.length_nil, Nat.zero_add]) ?_
        have e : (rowR r (j + 1)).map (PV.int .i64) = (rowR r j).map (PV.int .i64) ++ [p64 y] := by
          unfold rowR
          rw [List.range_succ, List.map_append, List.map_append]
          simp [List.getD, gy]
        rw [e]
      · have hj32 : j = 32 := by omega
        subst hj32
        simp only [PP, P1, P2, P3, P4, P5, P6, P7, P8, P9, P10, P11, P12, P13, P14, L1, P15, N1, N2, N3, N4, N5, N6, N7, I1, I2, I3, I4, I5, I6, I7, reduceIte, reduceCtorEq, d]
        have hl32 : (rowR r 32).length = 32 := by simp [rowR]
        refine Gh.step (GStep.freeze (b := [.junk, .ptr 0 0 0, .junk, .ptr 1 0 0, .junk, .ptr 2 0 0, p64 k, .sl false true 1 32 ((rowR r 32).map (PV.int .i64)), .junk, .junk, .junk, .junk, .junk, .junk, .junk, .junk, .junk, .junk, .junk, .junk, .junk, .junk, .junk, .junk, .junk, .junk, .junk, .junk, .junk, .junk, .junk, .junk, .junk, .junk, .junk, .junk, .junk, .junk, .junk, .junk, .junk, .junk, .junk, .junk, .junk, .junk, .junk, .junk, .junk, .junk, .junk, .junk, .junk, .junk, .junk, .junk, .junk, .junk, .junk, .junk, .junk, .junk, .junk, .junk, .junk, .junk, .junk, .junk, .junk, .junk, .junk, .junk, .junk, .junk, .junk, .junk, .junk, .junk, .junk, .junk, .junk, .junk, .junk, .junk, .junk, .junk, .junk, .junk, .junk, .junk, .junk, .junk, .junk, .junk, .junk, .junk, .junk, .junk, .junk, .junk, .junk, .junk, .junk, .junk, .junk, .junk, .junk, .junk, .junk]) 4 (Nat.zero_le _) rfl (by
          rw [PFrz_junk, PFrz_same, PFrz_junk, PFrz_same, PFrz_junk, PFrz_same, PFrz_same, PFrz_ref (by rw [List.length_map, hl32]; omega) (by rw [Nat.mul_one, psub_all _ _ (by rw [List.length_map, hl32])])]
          simp only [PFrz_nil, PFrz_junk, PFrz_same]) rfl) (Gh.same ?_)
        have hps : psub (((su.take k).map fun r => rowR r 32).map (slI false true .i64)) 0 k = ((su.take k).map fun r => rowR r 32).map (slI false true .i64) := psub_all _ _ (by simp; omega)
        have hlk : k ≤ (su.take k).length := by simp; omega
        have b24 : (k + 1) * 24 ≤ 140737488355328 := by omega
        have b1 : k + 1 ≤ 9223372036854775807 := by omega
        simp only [PP, P1, P2, P3, P4, P5, P6, P7, P8, P9, P10, P11, P12, P13, P14, L1, P15, N1, N2, N3, N4, N5, N6, N7, I1, I2, I3, I4, I5, I6, I7, reduceIte, reduceCtorEq, hps, hlk, b24, b1, hwk]
        refine SemW_re (GStep.drop (b := [.junk, .ptr 0 0 0, .junk, .ptr 1 0 0, .junk, .ptr 2 0 0, p64 ((k + 1 : Nat) : Int), .junk, .junk, .junk, .junk, .junk, .junk, .junk, .junk, .junk, .junk, .junk, .junk, .junk, .junk, .junk, .junk, .junk, .junk, .junk, .junk, .junk, .junk, .junk, .junk, .junk, .junk, .junk, .junk, .junk, .junk, .junk, .junk, .junk, .junk, .junk, .junk, .junk, .junk, .junk, .junk, .junk, .junk, .junk, .junk, .junk, .junk, .junk, .junk, .junk, .junk, .junk, .junk, .junk, .junk, .junk, .junk, .junk, .junk, .junk, .junk, .junk, .junk, .junk, .junk, .junk, .junk, .junk, .junk, .junk, .junk, .junk, .junk, .junk, .junk, .junk, .junk, .junk, .junk, .junk, .junk, .junk, .junk, .junk, .junk, .junk, .junk, .junk, .junk, .junk, .junk, .junk, .junk, .junk, .junk, .junk, .junk, .junk, .junk, .junk, .junk, .junk, .junk]) 4 (Nat.zero_le _) (by simp) (by simp only [PWeak_nil, PWeak_junk, PWeak_same, Int.cast_ofNat_Int, List.length_append, List.length_cons, List.length_nil, Nat.zero_add]) (by simp only [PP, P1, P2, P3, P4, P5, P6, P7, P8, P9, P10, P11, P12, P13, P14, L1, P15, N1, N2, N3, N4, N5, N6, N7, I1, I2, I3, I4, I5, I6, I7, reduceIte, reduceCtorEq]) (by simp only [PP, P1, P2, P3, P4, P5, P6, P7, P8, P9, P10, P11, P12, P13, P14, L1, P15, N1, N2, N3, N4, N5, N6, N7, I1, I2, I3, I4, I5, I6, I7, reduceIte, reduceCtorEq]) rfl) ?_
        refine SemW_to (ih (k + 1) (ver + 1) (g + 1) 0 hk' (by omega)) (by simp only [PWeak_nil, PWeak_junk, PWeak_same, Int.cast_ofNat_Int, List.length_append, List.length_cons, List.length_nil, Nat.zero_add]) ?_
        simp only [List.take_succ_cons, List.take_zero]
        rw [List.take_add_one, gr]
        simp only [Option.toList_some, List.map_append, List.map_cons, List.map_nil, slI, hl32]
    · have hkl : k = ow.length := by omega
      subst hkl
      simp only [PP, P1, P2, P3, P4, P5, P6, P7, P8, P9, P10, P11, P12, P13, P14, L1, P15, N1, N2, N3, N4, N5, N6, N7, I1, I2, I3, I4, I5, I6, I7, reduceIte, reduceCtorEq, c]
      obtain ⟨rr, hrr⟩ : ∃ rr, rr = su.map fun r => rowR r 32 := ⟨_, rfl⟩
      have hrl : rr.length = ow.length := by rw [hrr]; simp; omega
      rw [List.take_of_length_le (by omega : su.length ≤ ow.length), ← hrr, ← hrl]
      refine Gh.step (GStep.freezeIn (b := [.junk, .ptr 0 0 0, .junk, .ptr 1 0 0, .junk, .ptr 2 0 0, .junk, .junk, .junk, .junk, .junk, .junk, .junk, .junk, .junk, .junk, .junk, .junk, .junk, .junk, .junk, .junk, .junk, .junk, .junk, .junk, .junk, .junk, .junk, .junk, .junk, .junk, .junk, .junk, .junk, .junk, .junk, .junk, .junk, .junk, .junk, .junk, .junk, .junk, .junk, .junk, .junk, .junk, .junk, .junk, .junk, .junk, .junk, .junk, .junk, .junk, .junk, .junk, .junk, .junk, .junk, .junk, .junk, .junk, .junk, .junk, .junk, .junk, .junk, .junk, .junk, .junk, .junk, .junk, .junk, .junk, .junk, .junk, .junk, .junk, .junk, .junk, .junk, .junk, .junk, .junk, .junk, .junk, .junk, .junk, .junk, .junk, .junk, .junk, .junk, .junk, .junk, .junk, .junk, .junk, .junk, .junk, .junk, .junk, .junk, .junk, .junk, .junk, .junk]) 3 2 (Nat.zero_le _) rfl rfl (by omega) (by simp only [PFrz_nil, PFrz_junk, PFrz_same]) (cj2 := [p64 5, p64 0, slR false true false true .i64 rr, slI false true .i64 pr]) (by
        rw [PFrz_same, PFrz_same, PFrz_ref (by rw [List.length_map]; omega) (by rw [Nat.mul_one, psub_all _ _ (by rw [List.length_map])]), PFrz_same]
        simp only [PFrz_nil]) rfl) (Gh.same ?_)
      simp only [List.set_cons_zero, List.set_cons_succ]
      simp only [PP, P1, P2, P3, P4, P5, P6, P7, P8, P9, P10, P11, P12, P13, P14, L1, P15, N1, N2, N3, N4, N5, N6, N7, I1, I2, I3, I4, I5, I6, I7, reduceIte, reduceCtorEq]
      have hrr_at : ∀ v, v < ow.length → ∃ r, su[v]? = some r ∧ rr[v]? = some (rowR r 32) ∧ 0 < r.length ∧ r.length ≤ 30 ∧ ∀ x ∈ r, 0 ≤ x ∧ x < ow.length := fun v hv => by
        obtain ⟨r, gr⟩ := some_of (xs := su) (k := v) (by omega)
        obtain ⟨_, _, _, r0, rp⟩ := V.row v (by omega)
        have er : su[v]'(by omega) = r := by rw [List.getElem?_eq_getElem (by omega)] at gr; exact Option.some.inj gr
        rw [er] at r0 rp
        have hrl := rise_len r (-1) ow.length (posM_rise rp).1 (posM_rise rp).2 (List.length_pos_iff.1 r0)
        refine ⟨r, gr, by rw [hrr, List.getElem?_map, gr]; rfl, r0, by omega, fun x hx => ?_⟩
        have := (posM_rise rp).2 x hx
        omega
      have PO : ParOk ow.length rr pr := by
        refine ⟨n0, V.n1, hrl, hp, fun r' hr' => ?_, fun x hx => ?_⟩
        · obtain ⟨v, gv⟩ := List.getElem?_of_mem hr'
          obtain ⟨r, _, g2, r0, _, hx⟩ := hrr_at v (by have := getSome_lt gv; omega)
          rw [gv] at g2; cases g2
          refine ⟨by simp [rowR], fun x hxm => ?_⟩
          obtain ⟨j, _, rfl⟩ := List.mem_map.1 hxm
          obtain ⟨y, gy⟩ := some_of (xs := r) (k := j % r.length) (Nat.mod_lt _ r0)
          rw [getD_some gy]
          exact hx y (List.mem_of_getElem? gy)
        · obtain ⟨v, gv⟩ := List.getElem?_of_mem hx
          have hvl := getSome_lt gv
          obtain ⟨h1, h2, _⟩ := V.row v (by omega)
          rw [getD_some gv] at h1 h2
          exact ⟨h1, h2⟩
      refine reduceA_p T PO (fun out most lo R => ?_)
      have R' : RSpec (Sf su) (zP pr) (fun v => v < ow.length) (zP out) most := by
        refine R.sub fun v hv u hu => ?_
        obtain ⟨r, g1, g2, r0, r40, _⟩ := hrr_at v hv
        have e1 : Sf su v = r.map Int.toNat := by simp [Sf, List.getD, g1]
        have e2 : Sf rr v = (rowR r 32).map Int.toNat := by simp [Sf, List.getD, g2]
        rw [e1] at hu
        rw [e2]
        obtain ⟨x, hx, rfl⟩ := List.mem_map.1 hu
        refine List.mem_map.2 ⟨x, ?_, rfl⟩
        obtain ⟨j, hj⟩ := List.getElem?_of_mem hx
        have hjl := getSome_lt hj
        refine List.mem_map.2 ⟨j, List.mem_range.2 (by omega), ?_⟩
        rw [Nat.mod_eq_of_lt hjl]
        exact getD_some hj
      simp only [PP, P1, P2, P3, P4, P5, P6, P7, P8, P9, P10, P11, P12, P13, P14, L1, P15, N1, N2, N3, N4, N5, N6, N7, I1, I2, I3, I4, I5, I6, I7, reduceIte, reduceCtorEq, lo]
      refine copyGame_p T B ?_
      simp only [PP, P1, P2, P3, P4, P5, P6, P7, P8, P9, P10, P11, P12, P13, P14, L1, P15, N1, N2, N3, N4, N5, N6, N7, I1, I2, I3, I4, I5, I6, I7, reduceIte, reduceCtorEq]
      have B2 : Bnd ow out su := ⟨B.o, by show _ < 1000000000000; rw [lo]; exact B.o, B.s, B.r⟩
      have V2 := red_valid V lo R'
      refine solve_p T B2 ho (fun c => absurd (check_of V2) c) (fun c3 ws2 ss2 L2 => ?_)
      have e2 := red_win V ho L lo R' L2
      subst e2
      simp only [PP, P1, P2, P3, P4, P5, P6, P7, P8, P9, P10, P11, P12, P13, P14, L1, P15, N1, N2, N3, N4, N5, N6, N7, I1, I2, I3, I4, I5, I6, I7, reduceIte, reduceCtorEq]
      refine bytes_p T (by show _ < 1000000000000; rw [L.lw]; omega) ?_
      simp only [PP, P1, P2, P3, P4, P5, P6, P7, P8, P9, P10, P11, P12, P13, P14, L1, P15, N1, N2, N3, N4, N5, N6, N7, I1, I2, I3, I4, I5, I6, I7, reduceIte, reduceCtorEq]
end
end Go.Am.Ar
set_option linter.unusedVariables false
set_option linter.unusedSimpArgs false
namespace Go.Am.Ar
abbrev gameTy : Ty := .pair (.slice (.int .u8)) (.pair (.slice (.int .i64)) (.pair (.slice (.slice (.int .i64))) .unit))
structure Nums (ow pr : List Int) (su : List (List Int)) : Prop where
  o : ∀ x ∈ ow, 0 ≤ x ∧ x ≤ 255
  p : ∀ x ∈ pr, -9223372036854775808 ≤ x ∧ x ≤ 9223372036854775807
  s : ∀ r ∈ su, ∀ x ∈ r, -9223372036854775808 ≤ x ∧ x ≤ 9223372036854775807
  lo : ow.length ≤ 9223372036854775807
  lp : pr.length ≤ 9223372036854775807
  ls : su.length ≤ 9223372036854775807
  lr : ∀ r ∈ su, r.length ≤ 9223372036854775807
theorem arg_game {v : AV} {h : H} (hs : ShV gameTy v h) : ∃ (ow pr : List Int) (su : List (List Int)), RepV (wH h) (gmP false false false false false false false false ow pr su) v ∧ Nums ow pr su := by
  obtain ⟨avs, hs, rfl⟩ := hs
  obtain ⟨c1, c2, rfl, h1, c3, c4, rfl, h2, c5, c6, rfl, h3, h4⟩ := hs
  have h4 : c6 = [] := h4
  subst h4
  obtain ⟨vo, ow, rfl, p1, q1, r1⟩ := sh_intsP h1
  obtain ⟨vp, pr, rfl, p2, q2, r2⟩ := sh_intsP h2
  obtain ⟨vs, su, rfl, p3, q3, r3⟩ := sh_rowsP h3
  refine ⟨ow, pr, su, ?_, ⟨r1, r2, fun r hr => (r3 r hr).2, q1, q2, q3, fun r hr => (r3 r hr).1⟩⟩
  have := RepL.cons p1 (.cons p2 (.cons p3 (.nil (wH h))))
  exact .agg this.len this.get
theorem run_of_C {tab : FuncId → Option AF} {g : FuncId} {args : List AV} {h : H} (hc : C (lim tab) g args h fun v _ => v = .bool true) : ∃ n h', (run tab n).call g args h = some (.bool true, h') := by
  unfold C at hc
  obtain ⟨v, h', he, rfl⟩ := hc
  obtain ⟨n, hn⟩ := (lim_call_iff tab).1 he
  exact ⟨n, h', hn⟩
theorem shVs1 {A : Ty} {args : List AV} {h : H} (hs : ShVs [A] args h) : ∃ a, args = [a] ∧ ShV A a h := by
  match args, hs with
  | [a], ⟨h1, _⟩ => exact ⟨a, rfl, h1⟩
end Go.Am.Ar
set_option linter.unusedVariables false
namespace Go.Am.Ar
theorem zreduced_all {tab : FuncId → Option AF} (T : HasA tab) (args : List AV) (h : H) (hs : ShVs [gameTy] args h) :
    ∃ n h', (run tab n).call 3 args h = some (.bool true, h') := by
  obtain ⟨a, rfl, ha⟩ := shVs1 hs
  obtain ⟨ow, pr, su, r1, N⟩ := arg_game ha
  exact run_of_C (law_of_sem (.cons r1 (.nil _)) (zreduced_p T (fun x hx => (N.o x hx).1)))
end Go.Am.Ar

