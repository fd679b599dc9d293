/- Contracts of the plays. -/
import Derived.Test.YtjkmbpaobkhlnaaMzArGame2
set_option linter.unusedVariables false
set_option linter.unusedSimpArgs false
namespace Go.Am.Ar

theorem nodup_len : ∀ (n : Nat) (l : List Int), l.Nodup → (∀ x ∈ l, 0 ≤ x ∧ x < (n : Int)) → l.length ≤ n
  | 0, l, _, h => by
    cases l with
    | nil => simp
    | cons x l => have := h x (by simp); omega
  | n + 1, l, hd, h => by
    by_cases hm : (n : Int) ∈ l
    · have h1 := nodup_len n (l.erase (n : Int)) (hd.erase _) (fun x hx => by
        rw [hd.mem_erase_iff] at hx
        have := h x hx.2
        have := hx.1
        omega)
      rw [List.length_erase_of_mem hm] at h1
      omega
    · have h1 := nodup_len n l hd (fun x hx => by
        have := h x hx
        have : x ≠ (n : Int) := fun e => hm (e ▸ hx)
        omega)
      omega

theorem posM_mem {n : Int} : ∀ {l : List Int} {last : Int}, posM n last l = true → ∀ x ∈ l, last < x ∧ x < n
  | [], last, h, x, hx => by cases hx
  | v :: l, last, h, x, hx => by
    unfold posM at h
    split at h
    · cases h
    · rename_i hc
      rcases List.mem_cons.1 hx with rfl | hx
      · omega
      · have := posM_mem h x hx; omega

theorem checkLoop_rows {ow pr : List Int} : ∀ {su : List (List Int)} {k : Nat}, checkLoop ow pr k su = 0 → ∀ row ∈ su, posM ow.length (-1) row = true
  | [], k, h, row, hr => by cases hr
  | r :: su, k, h, row, hr => by
    unfold checkLoop at h
    split at h
    · cases h
    · split at h
      · cases h
      · split at h
        · cases h
        · split at h
          · cases h
          · rename_i hp
            rcases List.mem_cons.1 hr with rfl | hr
            · simpa using hp
            · exact checkLoop_rows h row hr

def movesOk (su : List (List Int)) : Nat → List Int → Bool
  | _, [] => true
  | k, u :: l => if u ∈ su.getD k [] then movesOk su (k + 1) l else false

theorem movesOk_cons (su : List (List Int)) (k : Nat) (u : Int) (l : List Int) : movesOk su k (u :: l) = if u ∈ su.getD k [] then movesOk su (k + 1) l else false := rfl

theorem movesOk_mem {su : List (List Int)} : ∀ {l : List Int} {k : Nat}, movesOk su k l = true → ∀ u ∈ l, ∃ row ∈ su, u ∈ row
  | [], k, h, u, hu => by cases hu
  | v :: l, k, h, u, hu => by
    unfold movesOk at h
    split at h
    · rename_i hv
      rcases List.mem_cons.1 hu with rfl | hu
      · rcases Nat.lt_or_ge k su.length with hk | hk
        · have e : su.getD k [] = su[k] := by simp [hk]
          rw [e] at hv
          exact ⟨su[k], List.getElem_mem hk, hv⟩
        · have e : su.getD k [] = [] := by simp [hk]
          rw [e] at hv; cases hv
      · exact movesOk_mem h u hu
    · cases h

def playGo (st : List Int) : Nat → List Int → Int → List Int × List Int
  | 0, all, _ => (all, [])
  | f + 1, all, v => if 0 ≤ idxK v 0 all then (all.take (idxK v 0 all).toNat, all.drop (idxK v 0 all).toNat) else playGo st f (all ++ [v]) (st.getD v.toNat 0)

def playFin (ok : Bool) (r : List Int × List Int) : (List Int × List Int) × Int := match ok with
  | true => (r, 0)
  | false => (([], []), 13)

/-- The play that follows a strategy. -/
def playM (ow pr : List Int) (su : List (List Int)) (st : List Int) (start : Int) : (List Int × List Int) × Int :=
  if checkM ow pr su ≠ 0 then (([], []), checkM ow pr su) else if start < 0 ∨ (ow.length : Int) ≤ start then (([], []), 8) else if st.length ≠ ow.length then (([], []), 2)
  else playFin (movesOk su 0 st) (playGo st (ow.length + 1) [] start)

theorem idxK_cons (v : Int) (k : Nat) (x : Int) (l : List Int) : idxK v k (x :: l) = if v = x then (k : Int) else idxK v (k + 1) l := rfl

theorem idxK_lt {v : Int} : ∀ (l : List Int) (k : Nat), 0 ≤ idxK v k l → (k : Int) ≤ idxK v k l ∧ idxK v k l < k + l.length
  | [], k, h => by simp [idxK] at h
  | x :: l, k, h => by
    unfold idxK at h ⊢
    split
    · simp; omega
    · rename_i hne
      rw [if_neg hne] at h
      have := idxK_lt l (k + 1) h
      simp; omega

section
variable {tab : FuncId → Option AF} (T : Has tab)
include T

theorem play_spec {h : H} {vo vp vs sv : AV} {rs : List AV} {ow pr st : List Int} {su : List (List Int)} {start : Int} (G0 : Gm vo vp vs rs ow pr su h) (hs0 : SlV sv (st.map i64) h) (hm : st.length < big) {Q : AV → H → Prop}
    (hq0 : ∀ a b h', Ext h h' → SlV a ((playM ow pr su st start).1.1.map i64) h' → SlV b ((playM ow pr su st start).1.2.map i64) h' → Q (.tuple [a, b, i64 (playM ow pr su st start).2]) h') :
    C (lim tab) 85 [.agg [vo, vp, vs], sv, i64 start] h Q := by
  rw [C_fn T.h85]
  have e1 := Ext.alloc h (.cells 0 true [vo, vp, vs])
  have hlt1 : h.next < (h.alloc (.cells 0 true [vo, vp, vs])).next := by simp
  have b0 : ∀ i, getCell (h.alloc (.cells 0 true [vo, vp, vs])) h.next i = [vo, vp, vs][i]? := box_cell h _
  have b3 : getCells (h.alloc (.cells 0 true [vo, vp, vs])) h.next 0 3 = some [vo, vp, vs] := box_cells h _ 3 rfl
  have hone : [vo, vp, vs].all AV.one = true := by simp [G0.o.one, G0.p.one, G0.s.one]
  have G1 := G0.ext e1
  generalize hh1 : h.alloc (.cells 0 true [vo, vp, vs]) = h1 at *
  simp only [af85, W_skip, W_ret, W_exit, W_region, W_seq, W_block, W_cond, PCondW_true, PCondW_false, PCondW_dec, PGuardW_tt, PGuardW_ff, PGuardW_tf, PGuardW_ft, PGuardW_tuple, PGuardW_dec_t, PGuardW_dec_f, pickV_true, pickV_false, pickV_dec, KSeq_eq, KBlock_eq, WL_eq, WO_nil, WO_none, WO_some, KPut_eq, KRes_eq, KFalse, WS_call, WS_move, WS_pick, WS_alloc, WS_box, WS_build, WS_buildSlice, WS_load, WS_loadAgg, WS_store, WS_nilCheck, WS_bin, WS_eqB, WS_isNil, WS_eqCells, WS_un, WS_convInt, WS_mkFunc, WS_makeMap, WS_makeSlice, WS_slice, WS_fieldAddr, WS_field, WS_fieldN, WS_indexAddr, WS_indexAddrA, WS_index, WS_extract, WS_len, WS_append, WS_max, PPtr_ptr, PInt_int, PBool_bool, PSome_some, PAgg_agg, PTuple_tuple, PSlice_slice, PSlice_nil, PLen_nil, PLen_slice, PCall_func, put, tset, tget, ev, bnd, fill_one, fill1_int, scrub, padTo, aresAll, ares, packRes, abin_add, abin_sub, abin_mul, abin_eql, abin_neq, abin_lss, abin_leq, abin_gtr, abin_geq, aun_not, maxV_two, List.length_cons, List.length_nil, List.replicate, List.cons_append, List.nil_append, List.append_nil, List.map_cons, List.map_nil, Nat.reduceAdd, Nat.reduceSub, ite_true, ite_false, if_true, if_false, Bool.false_eq_true, reduceIte, decide_true, decide_false, Bool.not_true, Bool.not_false, beq_self_eq_true, List.length_map, ne_eq, not_true_eq_false, not_false_eq_true, AV.cells, hone, hh1, b3, true_and]
  refine check_spec T G1 fun h2 e2 => ?_
  have G := G1.ext e2
  have hs := (hs0.ext e1).ext e2
  have c0 : getCell h2 h.next 0 = some vo := by rw [ext_cell e2 hlt1, b0]; rfl
  have c2 : getCell h2 h.next 2 = some vs := by rw [ext_cell e2 hlt1, b0]; rfl
  have hq := fun a b h' (e : Ext h2 h') => hq0 a b h' ((e1.trans e2).trans e)
  clear hq0
  unfold playM at hq
  by_cases hc : checkM ow pr su = 0
  · rw [if_neg (by simpa using hc)] at hq
    obtain ⟨hn0, hn4, hpl, hsl, hrows⟩ := checkM_len hc
    by_cases d1 : start < 0
    · rw [if_pos (.inl d1)] at hq
      simp only [W_skip, W_ret, W_exit, W_region, W_seq, W_block, W_cond, PCondW_true, PCondW_false, PCondW_dec, PGuardW_tt, PGuardW_ff, PGuardW_tf, PGuardW_ft, PGuardW_tuple, PGuardW_dec_t, PGuardW_dec_f, pickV_true, pickV_false, pickV_dec, KSeq_eq, KBlock_eq, WL_eq, WO_nil, WO_none, WO_some, KPut_eq, KRes_eq, KFalse, WS_call, WS_move, WS_pick, WS_alloc, WS_box, WS_build, WS_buildSlice, WS_load, WS_loadAgg, WS_store, WS_nilCheck, WS_bin, WS_eqB, WS_isNil, WS_eqCells, WS_un, WS_convInt, WS_mkFunc, WS_makeMap, WS_makeSlice, WS_slice, WS_fieldAddr, WS_field, WS_fieldN, WS_indexAddr, WS_indexAddrA, WS_index, WS_extract, WS_len, WS_append, WS_max, PPtr_ptr, PInt_int, PBool_bool, PSome_some, PAgg_agg, PTuple_tuple, PSlice_slice, PSlice_nil, PLen_nil, PLen_slice, PCall_func, put, tset, tget, ev, bnd, fill_one, fill1_int, scrub, padTo, aresAll, ares, packRes, abin_add, abin_sub, abin_mul, abin_eql, abin_neq, abin_lss, abin_leq, abin_gtr, abin_geq, aun_not, maxV_two, List.length_cons, List.length_nil, List.replicate, List.cons_append, List.nil_append, List.append_nil, List.map_cons, List.map_nil, Nat.reduceAdd, Nat.reduceSub, ite_true, ite_false, if_true, if_false, Bool.false_eq_true, reduceIte, decide_true, decide_false, Bool.not_true, Bool.not_false, beq_self_eq_true, List.length_map, ne_eq, not_true_eq_false, not_false_eq_true, hc, d1, c0, G.o.plen]
      exact hq _ _ _ (Ext.refl _) (SlV.nil _) (SlV.nil _)
    · by_cases d2 : (ow.length : Int) ≤ start
      · rw [if_pos (.inr d2)] at hq
        simp only [W_skip, W_ret, W_exit, W_region, W_seq, W_block, W_cond, PCondW_true, PCondW_false, PCondW_dec, PGuardW_tt, PGuardW_ff, PGuardW_tf, PGuardW_ft, PGuardW_tuple, PGuardW_dec_t, PGuardW_dec_f, pickV_true, pickV_false, pickV_dec, KSeq_eq, KBlock_eq, WL_eq, WO_nil, WO_none, WO_some, KPut_eq, KRes_eq, KFalse, WS_call, WS_move, WS_pick, WS_alloc, WS_box, WS_build, WS_buildSlice, WS_load, WS_loadAgg, WS_store, WS_nilCheck, WS_bin, WS_eqB, WS_isNil, WS_eqCells, WS_un, WS_convInt, WS_mkFunc, WS_makeMap, WS_makeSlice, WS_slice, WS_fieldAddr, WS_field, WS_fieldN, WS_indexAddr, WS_indexAddrA, WS_index, WS_extract, WS_len, WS_append, WS_max, PPtr_ptr, PInt_int, PBool_bool, PSome_some, PAgg_agg, PTuple_tuple, PSlice_slice, PSlice_nil, PLen_nil, PLen_slice, PCall_func, put, tset, tget, ev, bnd, fill_one, fill1_int, scrub, padTo, aresAll, ares, packRes, abin_add, abin_sub, abin_mul, abin_eql, abin_neq, abin_lss, abin_leq, abin_gtr, abin_geq, aun_not, maxV_two, List.length_cons, List.length_nil, List.replicate, List.cons_append, List.nil_append, List.append_nil, List.map_cons, List.map_nil, Nat.reduceAdd, Nat.reduceSub, ite_true, ite_false, if_true, if_false, Bool.false_eq_true, reduceIte, decide_true, decide_false, Bool.not_true, Bool.not_false, beq_self_eq_true, List.length_map, ne_eq, not_true_eq_false, not_false_eq_true, hc, d1, d2, c0, G.o.plen]
        exact hq _ _ _ (Ext.refl _) (SlV.nil _) (SlV.nil _)
      · rw [if_neg (by omega)] at hq
        by_cases d3 : st.length = ow.length
        · rw [if_neg (by simpa using d3)] at hq
          have d3' : (st.length : Int) = ow.length := by omega
          simp only [W_skip, W_ret, W_exit, W_region, W_seq, W_block, W_cond, PCondW_true, PCondW_false, PCondW_dec, PGuardW_tt, PGuardW_ff, PGuardW_tf, PGuardW_ft, PGuardW_tuple, PGuardW_dec_t, PGuardW_dec_f, pickV_true, pickV_false, pickV_dec, KSeq_eq, KBlock_eq, WL_eq, WO_nil, WO_none, WO_some, KPut_eq, KRes_eq, KFalse, WS_call, WS_move, WS_pick, WS_alloc, WS_box, WS_build, WS_buildSlice, WS_load, WS_loadAgg, WS_store, WS_nilCheck, WS_bin, WS_eqB, WS_isNil, WS_eqCells, WS_un, WS_convInt, WS_mkFunc, WS_makeMap, WS_makeSlice, WS_slice, WS_fieldAddr, WS_field, WS_fieldN, WS_indexAddr, WS_indexAddrA, WS_index, WS_extract, WS_len, WS_append, WS_max, PPtr_ptr, PInt_int, PBool_bool, PSome_some, PAgg_agg, PTuple_tuple, PSlice_slice, PSlice_nil, PLen_nil, PLen_slice, PCall_func, put, tset, tget, ev, bnd, fill_one, fill1_int, scrub, padTo, aresAll, ares, packRes, abin_add, abin_sub, abin_mul, abin_eql, abin_neq, abin_lss, abin_leq, abin_gtr, abin_geq, aun_not, maxV_two, List.length_cons, List.length_nil, List.replicate, List.cons_append, List.nil_append, List.append_nil, List.map_cons, List.map_nil, Nat.reduceAdd, Nat.reduceSub, ite_true, ite_false, if_true, if_false, Bool.false_eq_true, reduceIte, decide_true, decide_false, Bool.not_true, Bool.not_false, beq_self_eq_true, List.length_map, ne_eq, not_true_eq_false, not_false_eq_true, hc, d1, d2, c0, G.o.plen, hs.plen, d3']
          rw [W_scrub]
          simp only [scrub, tset]
          refine (?_ : ∀ (m k : Nat), k + m = st.length → (∀ a b h', Ext h2 h' → SlV a ((playFin (movesOk su k (st.drop k)) (playGo st (ow.length + 1) [] start)).1.1.map i64) h' → SlV b ((playFin (movesOk su k (st.drop k)) (playGo st (ow.length + 1) [] start)).1.2.map i64) h' → Q (.tuple [a, b, i64 (playFin (movesOk su k (st.drop k)) (playGo st (ow.length + 1) [] start)).2]) h') → (k = st.length → movesOk su 0 st = true) → (movesOk su 0 st = movesOk su k (st.drop k)) → W (lim tab) (.loop ?sc ?x) [.junk, sv, i64 start, .ptr h.next 0, .junk, .junk, .junk, .junk, .junk, .junk, .junk, .junk, .junk, .junk, .junk, .junk, .junk, .junk, .junk, .junk, .junk, .junk, .junk, .junk, .junk, .junk, .junk, .junk, .junk, .junk, .junk, .junk, .junk, .junk, .junk, .junk, .junk, sv, i64 ow.length, i64 k, .junk, .junk, .junk, .junk, .junk, .junk, .junk, .junk, .junk, .junk, .junk, .junk, .junk, .junk, .junk, .junk, .junk, .junk, .junk, .junk, .junk, .junk, .junk, .junk, .junk, .junk, .junk, .junk, .junk, .junk, .junk, .junk, .junk, .junk, .junk] h2 ?q1 ?q2 ?q3) st.length 0 (by simp) hq (fun h0 => by omega) rfl
          intro m
          induction m with
          | zero =>
            intro k hk hq _ hmo
            rw [W_round]
            have hd : st.drop k = [] := List.drop_eq_nil_of_le (by omega)
            rw [hd] at hq hmo
            have hlt : ¬ (k : Int) < ow.length := by omega
            have hlt2 : ¬ (k : Int) < st.length := by omega
            simp only [movesOk, playFin] at hq hmo
            simp only [W_skip, W_ret, W_exit, W_region, W_seq, W_block, W_cond, PCondW_true, PCondW_false, PCondW_dec, PGuardW_tt, PGuardW_ff, PGuardW_tf, PGuardW_ft, PGuardW_tuple, PGuardW_dec_t, PGuardW_dec_f, pickV_true, pickV_false, pickV_dec, KSeq_eq, KBlock_eq, WL_eq, WO_nil, WO_none, WO_some, KPut_eq, KRes_eq, KFalse, WS_call, WS_move, WS_pick, WS_alloc, WS_box, WS_build, WS_buildSlice, WS_load, WS_loadAgg, WS_store, WS_nilCheck, WS_bin, WS_eqB, WS_isNil, WS_eqCells, WS_un, WS_convInt, WS_mkFunc, WS_makeMap, WS_makeSlice, WS_slice, WS_fieldAddr, WS_field, WS_fieldN, WS_indexAddr, WS_indexAddrA, WS_index, WS_extract, WS_len, WS_append, WS_max, PPtr_ptr, PInt_int, PBool_bool, PSome_some, PAgg_agg, PTuple_tuple, PSlice_slice, PSlice_nil, PLen_nil, PLen_slice, PCall_func, put, tset, tget, ev, bnd, fill_one, fill1_int, scrub, padTo, aresAll, ares, packRes, abin_add, abin_sub, abin_mul, abin_eql, abin_neq, abin_lss, abin_leq, abin_gtr, abin_geq, aun_not, maxV_two, List.length_cons, List.length_nil, List.replicate, List.cons_append, List.nil_append, List.append_nil, List.map_cons, List.map_nil, Nat.reduceAdd, Nat.reduceSub, ite_true, ite_false, if_true, if_false, Bool.false_eq_true, reduceIte, decide_true, decide_false, Bool.not_true, Bool.not_false, beq_self_eq_true, List.length_map, ne_eq, not_true_eq_false, not_false_eq_true, hs.plen, hlt, hlt2]
            -- the walk
            have hst : ∀ u ∈ st, 0 ≤ u ∧ u < (ow.length : Int) := by
              intro u hu
              obtain ⟨row, hr, hur⟩ := movesOk_mem hmo u hu
              have := posM_mem (checkLoop_rows hrows row hr) u hur
              omega
            rw [W_scrub]
            simp only [scrub, tset]
            refine (?_ : ∀ (f : Nat) (all : List Int) (v : Int) (av : AV) (h3 : H), f + all.length = ow.length + 1 → all.Nodup → (∀ x ∈ all, 0 ≤ x ∧ x < (ow.length : Int)) → 0 ≤ v → v < (ow.length : Int) → GrV h2.next av (all.map i64) h3 → Ext h2 h3 →
              (∀ a b h', Ext h2 h' → SlV a ((playGo st f all v).1.map i64) h' → SlV b ((playGo st f all v).2.map i64) h' → Q (.tuple [a, b, i64 0]) h') → W (lim tab) (.loop ?sc2 ?x2) [.junk, sv, .junk, .junk, .junk, .junk, .junk, .junk, .junk, .junk, .junk, .junk, .junk, av, i64 v, .junk, .junk, .junk, .junk, .junk, .junk, .junk, .junk, .junk, .junk, .junk, .junk, .junk, .junk, .junk, .junk, .junk, .junk, .junk, .junk, .junk, .junk, .junk, .junk, .junk, .junk, .junk, .junk, .junk, .junk, .junk, .junk, .junk, .junk, .junk, .junk, .junk, .junk, .junk, .junk, .junk, .junk, .junk, .junk, .junk, .junk, .junk, .junk, .junk, .junk, .junk, .junk, .junk, .junk, .junk, .junk, .junk, .junk, .junk, .junk] h3 ?r1 ?r2 ?r3) (ow.length + 1) [] start .nilslice h2 (by simp) (by simp) (by simp) (by omega) (by omega) (.nil _ _) (Ext.refl _) hq
            intro f
            induction f with
            | zero =>
              intro all v av h3 hf hnd hall _ _ _ _ _
              have := nodup_len ow.length all hnd hall
              omega
            | succ f ih =>
              intro all v av h3 hf hnd hall hv0 hv1 hg e3 hq
              rw [W_round]
              have hal : all.length < big := by
                show all.length < 1000000000000
                omega
              unfold playGo at hq
              have hsx := hs.ext e3
              have hvi : v.toNat < (st.map i64).length := by simp; omega
              have hvg : st.getD v.toNat 0 = st[v.toNat]'(by simpa using hvi) := by simp only [List.length_map] at hvi; simp [hvi]
              have hvm := hst (st[v.toNat]'(by simpa using hvi)) (List.getElem_mem _)
              simp only [W_skip, W_ret, W_exit, W_region, W_seq, W_block, W_cond, PCondW_true, PCondW_false, PCondW_dec, PGuardW_tt, PGuardW_ff, PGuardW_tf, PGuardW_ft, PGuardW_tuple, PGuardW_dec_t, PGuardW_dec_f, pickV_true, pickV_false, pickV_dec, KSeq_eq, KBlock_eq, WL_eq, WO_nil, WO_none, WO_some, KPut_eq, KRes_eq, KFalse, WS_call, WS_move, WS_pick, WS_alloc, WS_box, WS_build, WS_buildSlice, WS_load, WS_loadAgg, WS_store, WS_nilCheck, WS_bin, WS_eqB, WS_isNil, WS_eqCells, WS_un, WS_convInt, WS_mkFunc, WS_makeMap, WS_makeSlice, WS_slice, WS_fieldAddr, WS_field, WS_fieldN, WS_indexAddr, WS_indexAddrA, WS_index, WS_extract, WS_len, WS_append, WS_max, PPtr_ptr, PInt_int, PBool_bool, PSome_some, PAgg_agg, PTuple_tuple, PSlice_slice, PSlice_nil, PLen_nil, PLen_slice, PCall_func, put, tset, tget, ev, bnd, fill_one, fill1_int, scrub, padTo, aresAll, ares, packRes, abin_add, abin_sub, abin_mul, abin_eql, abin_neq, abin_lss, abin_leq, abin_gtr, abin_geq, aun_not, maxV_two, List.length_cons, List.length_nil, List.replicate, List.cons_append, List.nil_append, List.append_nil, List.map_cons, List.map_nil, Nat.reduceAdd, Nat.reduceSub, ite_true, ite_false, if_true, if_false, Bool.false_eq_true, reduceIte, decide_true, decide_false, Bool.not_true, Bool.not_false, beq_self_eq_true, List.length_map, ne_eq, not_true_eq_false, not_false_eq_true]
              refine index_spec T hg.sl hal ?_
              by_cases hf0 : 0 ≤ idxK v 0 all
              · rw [if_pos hf0] at hq
                obtain ⟨_, hlt4⟩ := idxK_lt all 0 hf0
                generalize hj : (idxK v 0 all).toNat = j at hq
                have hj' : idxK v 0 all = (j : Int) := by omega
                have hne : all.map i64 ≠ [] := by intro e; simp at e; subst e; simp at hlt4; omega
                have hjl : j ≤ (all.map i64).length := by simp; omega
                obtain ⟨r1, p1, p2, _⟩ := hg.sl.take hjl hne
                have hf0' : (0 : Int) ≤ (j : Int) := by omega
                rw [← List.map_take] at p2
                simp only [W_skip, W_ret, W_exit, W_region, W_seq, W_block, W_cond, PCondW_true, PCondW_false, PCondW_dec, PGuardW_tt, PGuardW_ff, PGuardW_tf, PGuardW_ft, PGuardW_tuple, PGuardW_dec_t, PGuardW_dec_f, pickV_true, pickV_false, pickV_dec, KSeq_eq, KBlock_eq, WL_eq, WO_nil, WO_none, WO_some, KPut_eq, KRes_eq, KFalse, WS_call, WS_move, WS_pick, WS_alloc, WS_box, WS_build, WS_buildSlice, WS_load, WS_loadAgg, WS_store, WS_nilCheck, WS_bin, WS_eqB, WS_isNil, WS_eqCells, WS_un, WS_convInt, WS_mkFunc, WS_makeMap, WS_makeSlice, WS_slice, WS_fieldAddr, WS_field, WS_fieldN, WS_indexAddr, WS_indexAddrA, WS_index, WS_extract, WS_len, WS_append, WS_max, PPtr_ptr, PInt_int, PBool_bool, PSome_some, PAgg_agg, PTuple_tuple, PSlice_slice, PSlice_nil, PLen_nil, PLen_slice, PCall_func, put, tset, tget, ev, bnd, fill_one, fill1_int, scrub, padTo, aresAll, ares, packRes, abin_add, abin_sub, abin_mul, abin_eql, abin_neq, abin_lss, abin_leq, abin_gtr, abin_geq, aun_not, maxV_two, List.length_cons, List.length_nil, List.replicate, List.cons_append, List.nil_append, List.append_nil, List.map_cons, List.map_nil, Nat.reduceAdd, Nat.reduceSub, ite_true, ite_false, if_true, if_false, Bool.false_eq_true, reduceIte, decide_true, decide_false, Bool.not_true, Bool.not_false, beq_self_eq_true, List.length_map, ne_eq, not_true_eq_false, not_false_eq_true, hj', hf0', p1]
                refine clone_spec T p2 (by rw [List.length_take]; omega) fun a h4 q1 q2 => ?_
                obtain ⟨r2, p3, p4, _⟩ := (hg.sl.ext q2).drop hjl hne
                rw [← List.map_drop] at p4
                simp only [W_skip, W_ret, W_exit, W_region, W_seq, W_block, W_cond, PCondW_true, PCondW_false, PCondW_dec, PGuardW_tt, PGuardW_ff, PGuardW_tf, PGuardW_ft, PGuardW_tuple, PGuardW_dec_t, PGuardW_dec_f, pickV_true, pickV_false, pickV_dec, KSeq_eq, KBlock_eq, WL_eq, WO_nil, WO_none, WO_some, KPut_eq, KRes_eq, KFalse, WS_call, WS_move, WS_pick, WS_alloc, WS_box, WS_build, WS_buildSlice, WS_load, WS_loadAgg, WS_store, WS_nilCheck, WS_bin, WS_eqB, WS_isNil, WS_eqCells, WS_un, WS_convInt, WS_mkFunc, WS_makeMap, WS_makeSlice, WS_slice, WS_fieldAddr, WS_field, WS_fieldN, WS_indexAddr, WS_indexAddrA, WS_index, WS_extract, WS_len, WS_append, WS_max, PPtr_ptr, PInt_int, PBool_bool, PSome_some, PAgg_agg, PTuple_tuple, PSlice_slice, PSlice_nil, PLen_nil, PLen_slice, PCall_func, put, tset, tget, ev, bnd, fill_one, fill1_int, scrub, padTo, aresAll, ares, packRes, abin_add, abin_sub, abin_mul, abin_eql, abin_neq, abin_lss, abin_leq, abin_gtr, abin_geq, aun_not, maxV_two, List.length_cons, List.length_nil, List.replicate, List.cons_append, List.nil_append, List.append_nil, List.map_cons, List.map_nil, Nat.reduceAdd, Nat.reduceSub, ite_true, ite_false, if_true, if_false, Bool.false_eq_true, reduceIte, decide_true, decide_false, Bool.not_true, Bool.not_false, beq_self_eq_true, List.length_map, ne_eq, not_true_eq_false, not_false_eq_true, p3]
                refine clone_spec T p4 (by rw [List.length_drop]; omega) fun b h5 q3 q4 => ?_
                simp only [W_skip, W_ret, W_exit, W_region, W_seq, W_block, W_cond, PCondW_true, PCondW_false, PCondW_dec, PGuardW_tt, PGuardW_ff, PGuardW_tf, PGuardW_ft, PGuardW_tuple, PGuardW_dec_t, PGuardW_dec_f, pickV_true, pickV_false, pickV_dec, KSeq_eq, KBlock_eq, WL_eq, WO_nil, WO_none, WO_some, KPut_eq, KRes_eq, KFalse, WS_call, WS_move, WS_pick, WS_alloc, WS_box, WS_build, WS_buildSlice, WS_load, WS_loadAgg, WS_store, WS_nilCheck, WS_bin, WS_eqB, WS_isNil, WS_eqCells, WS_un, WS_convInt, WS_mkFunc, WS_makeMap, WS_makeSlice, WS_slice, WS_fieldAddr, WS_field, WS_fieldN, WS_indexAddr, WS_indexAddrA, WS_index, WS_extract, WS_len, WS_append, WS_max, PPtr_ptr, PInt_int, PBool_bool, PSome_some, PAgg_agg, PTuple_tuple, PSlice_slice, PSlice_nil, PLen_nil, PLen_slice, PCall_func, put, tset, tget, ev, bnd, fill_one, fill1_int, scrub, padTo, aresAll, ares, packRes, abin_add, abin_sub, abin_mul, abin_eql, abin_neq, abin_lss, abin_leq, abin_gtr, abin_geq, aun_not, maxV_two, List.length_cons, List.length_nil, List.replicate, List.cons_append, List.nil_append, List.append_nil, List.map_cons, List.map_nil, Nat.reduceAdd, Nat.reduceSub, ite_true, ite_false, if_true, if_false, Bool.false_eq_true, reduceIte, decide_true, decide_false, Bool.not_true, Bool.not_false, beq_self_eq_true, List.length_map, ne_eq, not_true_eq_false, not_false_eq_true]
                exact hq a b h5 ((e3.trans q2).trans q4) (q1.ext q4) q3
              · rw [if_neg hf0, hvg] at hq
                have hnm : v ∉ all := by rw [← idxK_nonneg all 0]; exact hf0
                obtain ⟨r, h4, rd, p1, p2, p3⟩ := (hg.ext (Ext.alloc h3 (.cells 0 true [i64 v]))).app (bytes := 8) (vs := [i64 v]) (lit_sl h3 (i64 v)) rfl (e3.trans (Ext.alloc _ _)) rfl (by simp; have : all.length < 1000000000000 := hal; omega) (by simp; have : all.length < 1000000000000 := hal; omega)
                have hs4 := hs.ext p3
                have := G.bo
                simp only [W_skip, W_ret, W_exit, W_region, W_seq, W_block, W_cond, PCondW_true, PCondW_false, PCondW_dec, PGuardW_tt, PGuardW_ff, PGuardW_tf, PGuardW_ft, PGuardW_tuple, PGuardW_dec_t, PGuardW_dec_f, pickV_true, pickV_false, pickV_dec, KSeq_eq, KBlock_eq, WL_eq, WO_nil, WO_none, WO_some, KPut_eq, KRes_eq, KFalse, WS_call, WS_move, WS_pick, WS_alloc, WS_box, WS_build, WS_buildSlice, WS_load, WS_loadAgg, WS_store, WS_nilCheck, WS_bin, WS_eqB, WS_isNil, WS_eqCells, WS_un, WS_convInt, WS_mkFunc, WS_makeMap, WS_makeSlice, WS_slice, WS_fieldAddr, WS_field, WS_fieldN, WS_indexAddr, WS_indexAddrA, WS_index, WS_extract, WS_len, WS_append, WS_max, PPtr_ptr, PInt_int, PBool_bool, PSome_some, PAgg_agg, PTuple_tuple, PSlice_slice, PSlice_nil, PLen_nil, PLen_slice, PCall_func, put, tset, tget, ev, bnd, fill_one, fill1_int, scrub, padTo, aresAll, ares, packRes, abin_add, abin_sub, abin_mul, abin_eql, abin_neq, abin_lss, abin_leq, abin_gtr, abin_geq, aun_not, maxV_two, List.length_cons, List.length_nil, List.replicate, List.cons_append, List.nil_append, List.append_nil, List.map_cons, List.map_nil, Nat.reduceAdd, Nat.reduceSub, ite_true, ite_false, if_true, if_false, Bool.false_eq_true, reduceIte, decide_true, decide_false, Bool.not_true, Bool.not_false, beq_self_eq_true, List.length_map, ne_eq, not_true_eq_false, not_false_eq_true, hf0, p1, hs4.pidxI hv0 hvi, hs4.cell hvi, List.getElem_map]
                rw [W_scrub]
                simp only [scrub, tset]
                refine ih (all ++ [v]) _ r h4 (by simp; omega) (by rw [List.nodup_append]; exact ⟨hnd, by simp, fun a ha b hb => by simp at hb; subst hb; exact fun e => hnm (e ▸ ha)⟩) (fun x hx => ?_) hvm.1 hvm.2 (by simpa using p2) p3 hq
                rcases List.mem_append.1 hx with hx | hx
                · exact hall x hx
                · simp at hx; subst hx; exact ⟨hv0, hv1⟩
          | succ m ih =>
            intro k hk hq hke hmo
            rw [W_round]
            have hk' : k < st.length := by omega
            rw [drop_get hk'] at hq hmo
            have hlt : (k : Int) < ow.length := by omega
            have hlt2 : (k : Int) < st.length := by omega
            have hkm : k < (st.map i64).length := by simpa using hk'
            have hr : k < rs.length := by rw [G.len]; omega
            have hsu : k < su.length := by omega
            have hrow := G.row k hr hsu
            have hbr := G.br k hsu
            have hw := wrap_succ (k := k) (by omega)
            have hsg : su.getD k [] = su[k] := by simp [hsu]
            simp only [W_skip, W_ret, W_exit, W_region, W_seq, W_block, W_cond, PCondW_true, PCondW_false, PCondW_dec, PGuardW_tt, PGuardW_ff, PGuardW_tf, PGuardW_ft, PGuardW_tuple, PGuardW_dec_t, PGuardW_dec_f, pickV_true, pickV_false, pickV_dec, KSeq_eq, KBlock_eq, WL_eq, WO_nil, WO_none, WO_some, KPut_eq, KRes_eq, KFalse, WS_call, WS_move, WS_pick, WS_alloc, WS_box, WS_build, WS_buildSlice, WS_load, WS_loadAgg, WS_store, WS_nilCheck, WS_bin, WS_eqB, WS_isNil, WS_eqCells, WS_un, WS_convInt, WS_mkFunc, WS_makeMap, WS_makeSlice, WS_slice, WS_fieldAddr, WS_field, WS_fieldN, WS_indexAddr, WS_indexAddrA, WS_index, WS_extract, WS_len, WS_append, WS_max, PPtr_ptr, PInt_int, PBool_bool, PSome_some, PAgg_agg, PTuple_tuple, PSlice_slice, PSlice_nil, PLen_nil, PLen_slice, PCall_func, put, tset, tget, ev, bnd, fill_one, fill1_int, scrub, padTo, aresAll, ares, packRes, abin_add, abin_sub, abin_mul, abin_eql, abin_neq, abin_lss, abin_leq, abin_gtr, abin_geq, aun_not, maxV_two, List.length_cons, List.length_nil, List.replicate, List.cons_append, List.nil_append, List.append_nil, List.map_cons, List.map_nil, Nat.reduceAdd, Nat.reduceSub, ite_true, ite_false, if_true, if_false, Bool.false_eq_true, reduceIte, decide_true, decide_false, Bool.not_true, Bool.not_false, beq_self_eq_true, List.length_map, ne_eq, not_true_eq_false, not_false_eq_true, hs.plen, hlt, hlt2, hs.pidx hkm, hs.cell hkm, c2, G.s.pidx hr, G.s.cell hr, List.getElem_map]
            refine contains_spec T hrow hbr ?_
            by_cases hu : st[k] ∈ su[k]
            · have hmk : movesOk su k (st[k] :: st.drop (k + 1)) = movesOk su (k + 1) (st.drop (k + 1)) := by rw [movesOk_cons, hsg, if_pos hu]
              rw [hmk] at hq hmo
              simp only [W_skip, W_ret, W_exit, W_region, W_seq, W_block, W_cond, PCondW_true, PCondW_false, PCondW_dec, PGuardW_tt, PGuardW_ff, PGuardW_tf, PGuardW_ft, PGuardW_tuple, PGuardW_dec_t, PGuardW_dec_f, pickV_true, pickV_false, pickV_dec, KSeq_eq, KBlock_eq, WL_eq, WO_nil, WO_none, WO_some, KPut_eq, KRes_eq, KFalse, WS_call, WS_move, WS_pick, WS_alloc, WS_box, WS_build, WS_buildSlice, WS_load, WS_loadAgg, WS_store, WS_nilCheck, WS_bin, WS_eqB, WS_isNil, WS_eqCells, WS_un, WS_convInt, WS_mkFunc, WS_makeMap, WS_makeSlice, WS_slice, WS_fieldAddr, WS_field, WS_fieldN, WS_indexAddr, WS_indexAddrA, WS_index, WS_extract, WS_len, WS_append, WS_max, PPtr_ptr, PInt_int, PBool_bool, PSome_some, PAgg_agg, PTuple_tuple, PSlice_slice, PSlice_nil, PLen_nil, PLen_slice, PCall_func, put, tset, tget, ev, bnd, fill_one, fill1_int, scrub, padTo, aresAll, ares, packRes, abin_add, abin_sub, abin_mul, abin_eql, abin_neq, abin_lss, abin_leq, abin_gtr, abin_geq, aun_not, maxV_two, List.length_cons, List.length_nil, List.replicate, List.cons_append, List.nil_append, List.append_nil, List.map_cons, List.map_nil, Nat.reduceAdd, Nat.reduceSub, ite_true, ite_false, if_true, if_false, Bool.false_eq_true, reduceIte, decide_true, decide_false, Bool.not_true, Bool.not_false, beq_self_eq_true, List.length_map, ne_eq, not_true_eq_false, not_false_eq_true, hu, hw]
              rw [W_scrub]
              simp only [scrub, tset]
              refine ih (k + 1) (by omega) hq (fun he => ?_) hmo
              rw [hmo, List.drop_eq_nil_of_le (by omega)]; rfl
            · have hmk : movesOk su k (st[k] :: st.drop (k + 1)) = false := by rw [movesOk_cons, hsg, if_neg hu]
              rw [hmk] at hq
              simp only [W_skip, W_ret, W_exit, W_region, W_seq, W_block, W_cond, PCondW_true, PCondW_false, PCondW_dec, PGuardW_tt, PGuardW_ff, PGuardW_tf, PGuardW_ft, PGuardW_tuple, PGuardW_dec_t, PGuardW_dec_f, pickV_true, pickV_false, pickV_dec, KSeq_eq, KBlock_eq, WL_eq, WO_nil, WO_none, WO_some, KPut_eq, KRes_eq, KFalse, WS_call, WS_move, WS_pick, WS_alloc, WS_box, WS_build, WS_buildSlice, WS_load, WS_loadAgg, WS_store, WS_nilCheck, WS_bin, WS_eqB, WS_isNil, WS_eqCells, WS_un, WS_convInt, WS_mkFunc, WS_makeMap, WS_makeSlice, WS_slice, WS_fieldAddr, WS_field, WS_fieldN, WS_indexAddr, WS_indexAddrA, WS_index, WS_extract, WS_len, WS_append, WS_max, PPtr_ptr, PInt_int, PBool_bool, PSome_some, PAgg_agg, PTuple_tuple, PSlice_slice, PSlice_nil, PLen_nil, PLen_slice, PCall_func, put, tset, tget, ev, bnd, fill_one, fill1_int, scrub, padTo, aresAll, ares, packRes, abin_add, abin_sub, abin_mul, abin_eql, abin_neq, abin_lss, abin_leq, abin_gtr, abin_geq, aun_not, maxV_two, List.length_cons, List.length_nil, List.replicate, List.cons_append, List.nil_append, List.append_nil, List.map_cons, List.map_nil, Nat.reduceAdd, Nat.reduceSub, ite_true, ite_false, if_true, if_false, Bool.false_eq_true, reduceIte, decide_true, decide_false, Bool.not_true, Bool.not_false, beq_self_eq_true, List.length_map, ne_eq, not_true_eq_false, not_false_eq_true, hu]
              exact hq _ _ _ (Ext.refl _) (SlV.nil _) (SlV.nil _)
        · rw [if_pos (by simpa using d3)] at hq
          have d3' : ¬ (st.length : Int) = ow.length := by omega
          simp only [W_skip, W_ret, W_exit, W_region, W_seq, W_block, W_cond, PCondW_true, PCondW_false, PCondW_dec, PGuardW_tt, PGuardW_ff, PGuardW_tf, PGuardW_ft, PGuardW_tuple, PGuardW_dec_t, PGuardW_dec_f, pickV_true, pickV_false, pickV_dec, KSeq_eq, KBlock_eq, WL_eq, WO_nil, WO_none, WO_some, KPut_eq, KRes_eq, KFalse, WS_call, WS_move, WS_pick, WS_alloc, WS_box, WS_build, WS_buildSlice, WS_load, WS_loadAgg, WS_store, WS_nilCheck, WS_bin, WS_eqB, WS_isNil, WS_eqCells, WS_un, WS_convInt, WS_mkFunc, WS_makeMap, WS_makeSlice, WS_slice, WS_fieldAddr, WS_field, WS_fieldN, WS_indexAddr, WS_indexAddrA, WS_index, WS_extract, WS_len, WS_append, WS_max, PPtr_ptr, PInt_int, PBool_bool, PSome_some, PAgg_agg, PTuple_tuple, PSlice_slice, PSlice_nil, PLen_nil, PLen_slice, PCall_func, put, tset, tget, ev, bnd, fill_one, fill1_int, scrub, padTo, aresAll, ares, packRes, abin_add, abin_sub, abin_mul, abin_eql, abin_neq, abin_lss, abin_leq, abin_gtr, abin_geq, aun_not, maxV_two, List.length_cons, List.length_nil, List.replicate, List.cons_append, List.nil_append, List.append_nil, List.map_cons, List.map_nil, Nat.reduceAdd, Nat.reduceSub, ite_true, ite_false, if_true, if_false, Bool.false_eq_true, reduceIte, decide_true, decide_false, Bool.not_true, Bool.not_false, beq_self_eq_true, List.length_map, ne_eq, not_true_eq_false, not_false_eq_true, hc, d1, d2, c0, G.o.plen, hs.plen, d3']
          exact hq _ _ _ (Ext.refl _) (SlV.nil _) (SlV.nil _)
  · rw [if_pos (by simpa using hc)] at hq
    simp only [W_skip, W_ret, W_exit, W_region, W_seq, W_block, W_cond, PCondW_true, PCondW_false, PCondW_dec, PGuardW_tt, PGuardW_ff, PGuardW_tf, PGuardW_ft, PGuardW_tuple, PGuardW_dec_t, PGuardW_dec_f, pickV_true, pickV_false, pickV_dec, KSeq_eq, KBlock_eq, WL_eq, WO_nil, WO_none, WO_some, KPut_eq, KRes_eq, KFalse, WS_call, WS_move, WS_pick, WS_alloc, WS_box, WS_build, WS_buildSlice, WS_load, WS_loadAgg, WS_store, WS_nilCheck, WS_bin, WS_eqB, WS_isNil, WS_eqCells, WS_un, WS_convInt, WS_mkFunc, WS_makeMap, WS_makeSlice, WS_slice, WS_fieldAddr, WS_field, WS_fieldN, WS_indexAddr, WS_indexAddrA, WS_index, WS_extract, WS_len, WS_append, WS_max, PPtr_ptr, PInt_int, PBool_bool, PSome_some, PAgg_agg, PTuple_tuple, PSlice_slice, PSlice_nil, PLen_nil, PLen_slice, PCall_func, put, tset, tget, ev, bnd, fill_one, fill1_int, scrub, padTo, aresAll, ares, packRes, abin_add, abin_sub, abin_mul, abin_eql, abin_neq, abin_lss, abin_leq, abin_gtr, abin_geq, aun_not, maxV_two, List.length_cons, List.length_nil, List.replicate, List.cons_append, List.nil_append, List.append_nil, List.map_cons, List.map_nil, Nat.reduceAdd, Nat.reduceSub, ite_true, ite_false, if_true, if_false, Bool.false_eq_true, reduceIte, decide_true, decide_false, Bool.not_true, Bool.not_false, beq_self_eq_true, List.length_map, ne_eq, not_true_eq_false, not_false_eq_true, hc]
    exact hq _ _ _ (Ext.refl _) (SlV.nil _) (SlV.nil _)
end
end Go.Am.Ar
