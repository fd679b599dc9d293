/- Contracts of the functions that check a game and tell the winner of a play, continued. -/
import Derived.Test.YtjkmbpaobkhlnaaMzArGame
set_option linter.unusedVariables false
set_option linter.unusedSimpArgs false
namespace Go.Am.Ar
section
variable {tab : FuncId → Option AF} (T : Has tab)
include T

theorem refCheck_spec {h : H} {vo vp vs : AV} {rs : List AV} {ow pr : List Int} {su : List (List Int)} (G0 : Gm vo vp vs rs ow pr su h) {Q : AV → H → Prop} (hq0 : ∀ h', Ext h h' → Q (i64 (checkM ow pr su)) h') :
    C (lim tab) 44 [.agg [vo, vp, vs]] h Q := by
  rw [C_fn T.h44]
  have e1 := Ext.alloc h (.cells 0 true [vo, vp, vs])
  have b0 : getCell (h.alloc (.cells 0 true [vo, vp, vs])) h.next 0 = some vo := box_cell h _ 0
  have b1 : getCell (h.alloc (.cells 0 true [vo, vp, vs])) h.next 1 = some vp := box_cell h _ 1
  have b2 : getCell (h.alloc (.cells 0 true [vo, vp, vs])) h.next 2 = some vs := box_cell h _ 2
  have hone : [vo, vp, vs].all AV.one = true := by simp [G0.o.one, G0.p.one, G0.s.one]
  have G := G0.ext e1
  have hq := hq0 _ e1
  generalize hh1 : h.alloc (.cells 0 true [vo, vp, vs]) = h1 at *
  unfold checkM at hq
  by_cases c1 : ow.length = 0
  · rw [if_pos c1] at hq
    have c1' : (ow.length : Int) = 0 := by omega
    simp only [af44, W_skip, W_ret, W_exit, W_region, W_seq, W_block, W_cond, PCondW_true, PCondW_false, PCondW_dec, PGuardW_tt, PGuardW_ff, PGuardW_tf, PGuardW_ft, PGuardW_tuple, PGuardW_dec_t, PGuardW_dec_f, pickV_true, pickV_false, pickV_dec, KSeq_eq, KBlock_eq, WL_eq, WO_nil, WO_none, WO_some, KPut_eq, KRes_eq, KFalse, WS_call, WS_move, WS_pick, WS_alloc, WS_box, WS_build, WS_buildSlice, WS_load, WS_loadAgg, WS_store, WS_nilCheck, WS_bin, WS_eqB, WS_isNil, WS_eqCells, WS_un, WS_convInt, WS_mkFunc, WS_makeMap, WS_makeSlice, WS_slice, WS_fieldAddr, WS_field, WS_fieldN, WS_indexAddr, WS_indexAddrA, WS_index, WS_extract, WS_len, WS_append, WS_max, PPtr_ptr, PInt_int, PBool_bool, PSome_some, PAgg_agg, PTuple_tuple, PSlice_slice, PSlice_nil, PLen_nil, PLen_slice, PCall_func, put, tset, tget, ev, bnd, fill_one, fill1_int, scrub, padTo, aresAll, ares, packRes, abin_add, abin_sub, abin_mul, abin_eql, abin_neq, abin_lss, abin_leq, abin_gtr, abin_geq, aun_not, maxV_two, List.length_cons, List.length_nil, List.replicate, List.cons_append, List.nil_append, List.append_nil, List.map_cons, List.map_nil, Nat.reduceAdd, Nat.reduceSub, ite_true, ite_false, if_true, if_false, Bool.false_eq_true, reduceIte, decide_true, decide_false, Bool.not_true, Bool.not_false, beq_self_eq_true, List.length_map, ne_eq, not_true_eq_false, not_false_eq_true, AV.cells, hone, hh1, b0, G.o.plen, c1', true_and]
    exact hq
  · rw [if_neg c1] at hq
    have c1' : ¬ (ow.length : Int) = 0 := by omega
    by_cases c2 : 4096 < ow.length
    · rw [if_pos c2] at hq
      have c2' : (4096 : Int) < ow.length := by omega
      simp only [af44, W_skip, W_ret, W_exit, W_region, W_seq, W_block, W_cond, PCondW_true, PCondW_false, PCondW_dec, PGuardW_tt, PGuardW_ff, PGuardW_tf, PGuardW_ft, PGuardW_tuple, PGuardW_dec_t, PGuardW_dec_f, pickV_true, pickV_false, pickV_dec, KSeq_eq, KBlock_eq, WL_eq, WO_nil, WO_none, WO_some, KPut_eq, KRes_eq, KFalse, WS_call, WS_move, WS_pick, WS_alloc, WS_box, WS_build, WS_buildSlice, WS_load, WS_loadAgg, WS_store, WS_nilCheck, WS_bin, WS_eqB, WS_isNil, WS_eqCells, WS_un, WS_convInt, WS_mkFunc, WS_makeMap, WS_makeSlice, WS_slice, WS_fieldAddr, WS_field, WS_fieldN, WS_indexAddr, WS_indexAddrA, WS_index, WS_extract, WS_len, WS_append, WS_max, PPtr_ptr, PInt_int, PBool_bool, PSome_some, PAgg_agg, PTuple_tuple, PSlice_slice, PSlice_nil, PLen_nil, PLen_slice, PCall_func, put, tset, tget, ev, bnd, fill_one, fill1_int, scrub, padTo, aresAll, ares, packRes, abin_add, abin_sub, abin_mul, abin_eql, abin_neq, abin_lss, abin_leq, abin_gtr, abin_geq, aun_not, maxV_two, List.length_cons, List.length_nil, List.replicate, List.cons_append, List.nil_append, List.append_nil, List.map_cons, List.map_nil, Nat.reduceAdd, Nat.reduceSub, ite_true, ite_false, if_true, if_false, Bool.false_eq_true, reduceIte, decide_true, decide_false, Bool.not_true, Bool.not_false, beq_self_eq_true, List.length_map, ne_eq, not_true_eq_false, not_false_eq_true, AV.cells, hone, hh1, b0, G.o.plen, c1', c2', true_and]
      exact hq
    · rw [if_neg c2] at hq
      have c2' : ¬ (4096 : Int) < ow.length := by omega
      by_cases c3 : pr.length = ow.length
      · by_cases c4 : su.length = ow.length
        · have hc : ¬ (pr.length ≠ ow.length ∨ su.length ≠ ow.length) := by omega
          rw [if_neg hc] at hq
          have c3' : (pr.length : Int) = ow.length := by omega
          have c4' : (rs.length : Int) = ow.length := by rw [G.len]; omega
          simp only [af44, W_skip, W_ret, W_exit, W_region, W_seq, W_block, W_cond, PCondW_true, PCondW_false, PCondW_dec, PGuardW_tt, PGuardW_ff, PGuardW_tf, PGuardW_ft, PGuardW_tuple, PGuardW_dec_t, PGuardW_dec_f, pickV_true, pickV_false, pickV_dec, KSeq_eq, KBlock_eq, WL_eq, WO_nil, WO_none, WO_some, KPut_eq, KRes_eq, KFalse, WS_call, WS_move, WS_pick, WS_alloc, WS_box, WS_build, WS_buildSlice, WS_load, WS_loadAgg, WS_store, WS_nilCheck, WS_bin, WS_eqB, WS_isNil, WS_eqCells, WS_un, WS_convInt, WS_mkFunc, WS_makeMap, WS_makeSlice, WS_slice, WS_fieldAddr, WS_field, WS_fieldN, WS_indexAddr, WS_indexAddrA, WS_index, WS_extract, WS_len, WS_append, WS_max, PPtr_ptr, PInt_int, PBool_bool, PSome_some, PAgg_agg, PTuple_tuple, PSlice_slice, PSlice_nil, PLen_nil, PLen_slice, PCall_func, put, tset, tget, ev, bnd, fill_one, fill1_int, scrub, padTo, aresAll, ares, packRes, abin_add, abin_sub, abin_mul, abin_eql, abin_neq, abin_lss, abin_leq, abin_gtr, abin_geq, aun_not, maxV_two, List.length_cons, List.length_nil, List.replicate, List.cons_append, List.nil_append, List.append_nil, List.map_cons, List.map_nil, Nat.reduceAdd, Nat.reduceSub, ite_true, ite_false, if_true, if_false, Bool.false_eq_true, reduceIte, decide_true, decide_false, Bool.not_true, Bool.not_false, beq_self_eq_true, List.length_map, ne_eq, not_true_eq_false, not_false_eq_true, AV.cells, hone, hh1, b0, b1, b2, G.o.plen, G.p.plen, G.s.plen, c1', c2', c3', c4', true_and]
          rw [W_scrub]
          simp only [scrub, tset]
          refine (?_ : ∀ (m k : Nat), k + m = su.length → Q (i64 (checkLoop ow pr k (su.drop k))) h1 → W (lim tab) (.loop ?sc ?x) [.junk, .ptr h.next 0, .junk, i64 ow.length, i64 k, .junk, .junk, .junk, .junk, .junk, .junk, .junk, .junk, .junk, .junk, .junk, .junk, .junk, .junk, .junk, .junk, .junk, .junk, .junk, .junk, .junk, .junk, .junk, .junk, .junk, .junk, .junk, .junk, .junk, .junk, .junk, .junk, .junk, .junk, .junk, .junk, .junk, .junk, .junk, .junk, .junk, .junk, .junk, .junk, .junk, .junk, .junk, .junk, .junk, .junk, .junk, .junk, .junk, .junk, .junk, .junk, .junk, .junk, .junk] h1 ?q1 ?q2 ?q3) su.length 0 (by simp) hq
          intro m
          induction m with
          | zero =>
            intro k hk hq
            rw [W_round]
            have hd : su.drop k = [] := List.drop_eq_nil_of_le (by omega)
            rw [hd] at hq
            have hlt : ¬ (k : Int) < ow.length := by omega
            simp only [W_skip, W_ret, W_exit, W_region, W_seq, W_block, W_cond, PCondW_true, PCondW_false, PCondW_dec, PGuardW_tt, PGuardW_ff, PGuardW_tf, PGuardW_ft, PGuardW_tuple, PGuardW_dec_t, PGuardW_dec_f, pickV_true, pickV_false, pickV_dec, KSeq_eq, KBlock_eq, WL_eq, WO_nil, WO_none, WO_some, KPut_eq, KRes_eq, KFalse, WS_call, WS_move, WS_pick, WS_alloc, WS_box, WS_build, WS_buildSlice, WS_load, WS_loadAgg, WS_store, WS_nilCheck, WS_bin, WS_eqB, WS_isNil, WS_eqCells, WS_un, WS_convInt, WS_mkFunc, WS_makeMap, WS_makeSlice, WS_slice, WS_fieldAddr, WS_field, WS_fieldN, WS_indexAddr, WS_indexAddrA, WS_index, WS_extract, WS_len, WS_append, WS_max, PPtr_ptr, PInt_int, PBool_bool, PSome_some, PAgg_agg, PTuple_tuple, PSlice_slice, PSlice_nil, PLen_nil, PLen_slice, PCall_func, put, tset, tget, ev, bnd, fill_one, fill1_int, scrub, padTo, aresAll, ares, packRes, abin_add, abin_sub, abin_mul, abin_eql, abin_neq, abin_lss, abin_leq, abin_gtr, abin_geq, aun_not, maxV_two, List.length_cons, List.length_nil, List.replicate, List.cons_append, List.nil_append, List.append_nil, List.map_cons, List.map_nil, Nat.reduceAdd, Nat.reduceSub, ite_true, ite_false, if_true, if_false, Bool.false_eq_true, reduceIte, decide_true, decide_false, Bool.not_true, Bool.not_false, beq_self_eq_true, List.length_map, ne_eq, not_true_eq_false, not_false_eq_true, hlt]
            exact hq
          | succ m ih =>
            intro k hk hq
            rw [W_round]
            have hk' : k < su.length := by omega
            rw [drop_get hk'] at hq
            have hlt : (k : Int) < ow.length := by omega
            have hr : k < rs.length := by rw [G.len]; exact hk'
            have ho : k < ow.length := by omega
            have hp : k < pr.length := by omega
            have hom : k < (ow.map u8).length := by simpa using ho
            have hpm : k < (pr.map i64).length := by simpa using hp
            have hw := wrap_succ (k := k) (by have := G.bs; omega)
            have hrow := G.row k hr hk'
            have hbr := G.br k hk'
            unfold checkLoop at hq
            rw [show ow.getD k 0 = ow[k] by simp [ho], show pr.getD k 0 = pr[k] by simp [hp]] at hq
            by_cases d1 : 1 < ow[k]
            · rw [if_pos d1] at hq
              simp only [W_skip, W_ret, W_exit, W_region, W_seq, W_block, W_cond, PCondW_true, PCondW_false, PCondW_dec, PGuardW_tt, PGuardW_ff, PGuardW_tf, PGuardW_ft, PGuardW_tuple, PGuardW_dec_t, PGuardW_dec_f, pickV_true, pickV_false, pickV_dec, KSeq_eq, KBlock_eq, WL_eq, WO_nil, WO_none, WO_some, KPut_eq, KRes_eq, KFalse, WS_call, WS_move, WS_pick, WS_alloc, WS_box, WS_build, WS_buildSlice, WS_load, WS_loadAgg, WS_store, WS_nilCheck, WS_bin, WS_eqB, WS_isNil, WS_eqCells, WS_un, WS_convInt, WS_mkFunc, WS_makeMap, WS_makeSlice, WS_slice, WS_fieldAddr, WS_field, WS_fieldN, WS_indexAddr, WS_indexAddrA, WS_index, WS_extract, WS_len, WS_append, WS_max, PPtr_ptr, PInt_int, PBool_bool, PSome_some, PAgg_agg, PTuple_tuple, PSlice_slice, PSlice_nil, PLen_nil, PLen_slice, PCall_func, put, tset, tget, ev, bnd, fill_one, fill1_int, scrub, padTo, aresAll, ares, packRes, abin_add, abin_sub, abin_mul, abin_eql, abin_neq, abin_lss, abin_leq, abin_gtr, abin_geq, aun_not, maxV_two, List.length_cons, List.length_nil, List.replicate, List.cons_append, List.nil_append, List.append_nil, List.map_cons, List.map_nil, Nat.reduceAdd, Nat.reduceSub, ite_true, ite_false, if_true, if_false, Bool.false_eq_true, reduceIte, decide_true, decide_false, Bool.not_true, Bool.not_false, beq_self_eq_true, List.length_map, ne_eq, not_true_eq_false, not_false_eq_true, hlt, G.s.pidx hr, G.s.cell hr, b0, b1, b2, G.o.pidx hom, G.o.cell hom, List.getElem_map, d1]
              exact hq
            · rw [if_neg d1] at hq
              by_cases d2 : pr[k] < 0
              · rw [if_pos (.inl d2)] at hq
                simp only [W_skip, W_ret, W_exit, W_region, W_seq, W_block, W_cond, PCondW_true, PCondW_false, PCondW_dec, PGuardW_tt, PGuardW_ff, PGuardW_tf, PGuardW_ft, PGuardW_tuple, PGuardW_dec_t, PGuardW_dec_f, pickV_true, pickV_false, pickV_dec, KSeq_eq, KBlock_eq, WL_eq, WO_nil, WO_none, WO_some, KPut_eq, KRes_eq, KFalse, WS_call, WS_move, WS_pick, WS_alloc, WS_box, WS_build, WS_buildSlice, WS_load, WS_loadAgg, WS_store, WS_nilCheck, WS_bin, WS_eqB, WS_isNil, WS_eqCells, WS_un, WS_convInt, WS_mkFunc, WS_makeMap, WS_makeSlice, WS_slice, WS_fieldAddr, WS_field, WS_fieldN, WS_indexAddr, WS_indexAddrA, WS_index, WS_extract, WS_len, WS_append, WS_max, PPtr_ptr, PInt_int, PBool_bool, PSome_some, PAgg_agg, PTuple_tuple, PSlice_slice, PSlice_nil, PLen_nil, PLen_slice, PCall_func, put, tset, tget, ev, bnd, fill_one, fill1_int, scrub, padTo, aresAll, ares, packRes, abin_add, abin_sub, abin_mul, abin_eql, abin_neq, abin_lss, abin_leq, abin_gtr, abin_geq, aun_not, maxV_two, List.length_cons, List.length_nil, List.replicate, List.cons_append, List.nil_append, List.append_nil, List.map_cons, List.map_nil, Nat.reduceAdd, Nat.reduceSub, ite_true, ite_false, if_true, if_false, Bool.false_eq_true, reduceIte, decide_true, decide_false, Bool.not_true, Bool.not_false, beq_self_eq_true, List.length_map, ne_eq, not_true_eq_false, not_false_eq_true, hlt, G.s.pidx hr, G.s.cell hr, b0, b1, b2, G.o.pidx hom, G.o.cell hom, G.p.pidx hpm, G.p.cell hpm, List.getElem_map, d1, d2]
                exact hq
              · by_cases d3 : 16 < pr[k]
                · rw [if_pos (.inr d3)] at hq
                  simp only [W_skip, W_ret, W_exit, W_region, W_seq, W_block, W_cond, PCondW_true, PCondW_false, PCondW_dec, PGuardW_tt, PGuardW_ff, PGuardW_tf, PGuardW_ft, PGuardW_tuple, PGuardW_dec_t, PGuardW_dec_f, pickV_true, pickV_false, pickV_dec, KSeq_eq, KBlock_eq, WL_eq, WO_nil, WO_none, WO_some, KPut_eq, KRes_eq, KFalse, WS_call, WS_move, WS_pick, WS_alloc, WS_box, WS_build, WS_buildSlice, WS_load, WS_loadAgg, WS_store, WS_nilCheck, WS_bin, WS_eqB, WS_isNil, WS_eqCells, WS_un, WS_convInt, WS_mkFunc, WS_makeMap, WS_makeSlice, WS_slice, WS_fieldAddr, WS_field, WS_fieldN, WS_indexAddr, WS_indexAddrA, WS_index, WS_extract, WS_len, WS_append, WS_max, PPtr_ptr, PInt_int, PBool_bool, PSome_some, PAgg_agg, PTuple_tuple, PSlice_slice, PSlice_nil, PLen_nil, PLen_slice, PCall_func, put, tset, tget, ev, bnd, fill_one, fill1_int, scrub, padTo, aresAll, ares, packRes, abin_add, abin_sub, abin_mul, abin_eql, abin_neq, abin_lss, abin_leq, abin_gtr, abin_geq, aun_not, maxV_two, List.length_cons, List.length_nil, List.replicate, List.cons_append, List.nil_append, List.append_nil, List.map_cons, List.map_nil, Nat.reduceAdd, Nat.reduceSub, ite_true, ite_false, if_true, if_false, Bool.false_eq_true, reduceIte, decide_true, decide_false, Bool.not_true, Bool.not_false, beq_self_eq_true, List.length_map, ne_eq, not_true_eq_false, not_false_eq_true, hlt, G.s.pidx hr, G.s.cell hr, b0, b1, b2, G.o.pidx hom, G.o.cell hom, G.p.pidx hpm, G.p.cell hpm, List.getElem_map, d1, d2, d3]
                  exact hq
                · rw [if_neg (by omega)] at hq
                  by_cases d4 : su[k].length = 0
                  · rw [if_pos d4] at hq
                    have d4' : (su[k].length : Int) = 0 := by omega
                    simp only [W_skip, W_ret, W_exit, W_region, W_seq, W_block, W_cond, PCondW_true, PCondW_false, PCondW_dec, PGuardW_tt, PGuardW_ff, PGuardW_tf, PGuardW_ft, PGuardW_tuple, PGuardW_dec_t, PGuardW_dec_f, pickV_true, pickV_false, pickV_dec, KSeq_eq, KBlock_eq, WL_eq, WO_nil, WO_none, WO_some, KPut_eq, KRes_eq, KFalse, WS_call, WS_move, WS_pick, WS_alloc, WS_box, WS_build, WS_buildSlice, WS_load, WS_loadAgg, WS_store, WS_nilCheck, WS_bin, WS_eqB, WS_isNil, WS_eqCells, WS_un, WS_convInt, WS_mkFunc, WS_makeMap, WS_makeSlice, WS_slice, WS_fieldAddr, WS_field, WS_fieldN, WS_indexAddr, WS_indexAddrA, WS_index, WS_extract, WS_len, WS_append, WS_max, PPtr_ptr, PInt_int, PBool_bool, PSome_some, PAgg_agg, PTuple_tuple, PSlice_slice, PSlice_nil, PLen_nil, PLen_slice, PCall_func, put, tset, tget, ev, bnd, fill_one, fill1_int, scrub, padTo, aresAll, ares, packRes, abin_add, abin_sub, abin_mul, abin_eql, abin_neq, abin_lss, abin_leq, abin_gtr, abin_geq, aun_not, maxV_two, List.length_cons, List.length_nil, List.replicate, List.cons_append, List.nil_append, List.append_nil, List.map_cons, List.map_nil, Nat.reduceAdd, Nat.reduceSub, ite_true, ite_false, if_true, if_false, Bool.false_eq_true, reduceIte, decide_true, decide_false, Bool.not_true, Bool.not_false, beq_self_eq_true, List.length_map, ne_eq, not_true_eq_false, not_false_eq_true, hlt, G.s.pidx hr, G.s.cell hr, b0, b1, b2, G.o.pidx hom, G.o.cell hom, G.p.pidx hpm, G.p.cell hpm, List.getElem_map, d1, d2, d3, hrow.plen, d4']
                    exact hq
                  · rw [if_neg d4] at hq
                    have d4' : ¬ (su[k].length : Int) = 0 := by omega
                    simp only [W_skip, W_ret, W_exit, W_region, W_seq, W_block, W_cond, PCondW_true, PCondW_false, PCondW_dec, PGuardW_tt, PGuardW_ff, PGuardW_tf, PGuardW_ft, PGuardW_tuple, PGuardW_dec_t, PGuardW_dec_f, pickV_true, pickV_false, pickV_dec, KSeq_eq, KBlock_eq, WL_eq, WO_nil, WO_none, WO_some, KPut_eq, KRes_eq, KFalse, WS_call, WS_move, WS_pick, WS_alloc, WS_box, WS_build, WS_buildSlice, WS_load, WS_loadAgg, WS_store, WS_nilCheck, WS_bin, WS_eqB, WS_isNil, WS_eqCells, WS_un, WS_convInt, WS_mkFunc, WS_makeMap, WS_makeSlice, WS_slice, WS_fieldAddr, WS_field, WS_fieldN, WS_indexAddr, WS_indexAddrA, WS_index, WS_extract, WS_len, WS_append, WS_max, PPtr_ptr, PInt_int, PBool_bool, PSome_some, PAgg_agg, PTuple_tuple, PSlice_slice, PSlice_nil, PLen_nil, PLen_slice, PCall_func, put, tset, tget, ev, bnd, fill_one, fill1_int, scrub, padTo, aresAll, ares, packRes, abin_add, abin_sub, abin_mul, abin_eql, abin_neq, abin_lss, abin_leq, abin_gtr, abin_geq, aun_not, maxV_two, List.length_cons, List.length_nil, List.replicate, List.cons_append, List.nil_append, List.append_nil, List.map_cons, List.map_nil, Nat.reduceAdd, Nat.reduceSub, ite_true, ite_false, if_true, if_false, Bool.false_eq_true, reduceIte, decide_true, decide_false, Bool.not_true, Bool.not_false, beq_self_eq_true, List.length_map, ne_eq, not_true_eq_false, not_false_eq_true, hlt, G.s.pidx hr, G.s.cell hr, b0, b1, b2, G.o.pidx hom, G.o.cell hom, G.p.pidx hpm, G.p.cell hpm, List.getElem_map, d1, d2, d3, hrow.plen, d4']
                    refine rises_spec T hrow hbr ?_
                    by_cases d5 : posM ow.length (-1) su[k] = false
                    · rw [if_pos d5] at hq
                      simp only [W_skip, W_ret, W_exit, W_region, W_seq, W_block, W_cond, PCondW_true, PCondW_false, PCondW_dec, PGuardW_tt, PGuardW_ff, PGuardW_tf, PGuardW_ft, PGuardW_tuple, PGuardW_dec_t, PGuardW_dec_f, pickV_true, pickV_false, pickV_dec, KSeq_eq, KBlock_eq, WL_eq, WO_nil, WO_none, WO_some, KPut_eq, KRes_eq, KFalse, WS_call, WS_move, WS_pick, WS_alloc, WS_box, WS_build, WS_buildSlice, WS_load, WS_loadAgg, WS_store, WS_nilCheck, WS_bin, WS_eqB, WS_isNil, WS_eqCells, WS_un, WS_convInt, WS_mkFunc, WS_makeMap, WS_makeSlice, WS_slice, WS_fieldAddr, WS_field, WS_fieldN, WS_indexAddr, WS_indexAddrA, WS_index, WS_extract, WS_len, WS_append, WS_max, PPtr_ptr, PInt_int, PBool_bool, PSome_some, PAgg_agg, PTuple_tuple, PSlice_slice, PSlice_nil, PLen_nil, PLen_slice, PCall_func, put, tset, tget, ev, bnd, fill_one, fill1_int, scrub, padTo, aresAll, ares, packRes, abin_add, abin_sub, abin_mul, abin_eql, abin_neq, abin_lss, abin_leq, abin_gtr, abin_geq, aun_not, maxV_two, List.length_cons, List.length_nil, List.replicate, List.cons_append, List.nil_append, List.append_nil, List.map_cons, List.map_nil, Nat.reduceAdd, Nat.reduceSub, ite_true, ite_false, if_true, if_false, Bool.false_eq_true, reduceIte, decide_true, decide_false, Bool.not_true, Bool.not_false, beq_self_eq_true, List.length_map, ne_eq, not_true_eq_false, not_false_eq_true, d5]
                      exact hq
                    · rw [if_neg d5] at hq
                      have d5' : posM ow.length (-1) su[k] = true := by simpa using d5
                      simp only [W_skip, W_ret, W_exit, W_region, W_seq, W_block, W_cond, PCondW_true, PCondW_false, PCondW_dec, PGuardW_tt, PGuardW_ff, PGuardW_tf, PGuardW_ft, PGuardW_tuple, PGuardW_dec_t, PGuardW_dec_f, pickV_true, pickV_false, pickV_dec, KSeq_eq, KBlock_eq, WL_eq, WO_nil, WO_none, WO_some, KPut_eq, KRes_eq, KFalse, WS_call, WS_move, WS_pick, WS_alloc, WS_box, WS_build, WS_buildSlice, WS_load, WS_loadAgg, WS_store, WS_nilCheck, WS_bin, WS_eqB, WS_isNil, WS_eqCells, WS_un, WS_convInt, WS_mkFunc, WS_makeMap, WS_makeSlice, WS_slice, WS_fieldAddr, WS_field, WS_fieldN, WS_indexAddr, WS_indexAddrA, WS_index, WS_extract, WS_len, WS_append, WS_max, PPtr_ptr, PInt_int, PBool_bool, PSome_some, PAgg_agg, PTuple_tuple, PSlice_slice, PSlice_nil, PLen_nil, PLen_slice, PCall_func, put, tset, tget, ev, bnd, fill_one, fill1_int, scrub, padTo, aresAll, ares, packRes, abin_add, abin_sub, abin_mul, abin_eql, abin_neq, abin_lss, abin_leq, abin_gtr, abin_geq, aun_not, maxV_two, List.length_cons, List.length_nil, List.replicate, List.cons_append, List.nil_append, List.append_nil, List.map_cons, List.map_nil, Nat.reduceAdd, Nat.reduceSub, ite_true, ite_false, if_true, if_false, Bool.false_eq_true, reduceIte, decide_true, decide_false, Bool.not_true, Bool.not_false, beq_self_eq_true, List.length_map, ne_eq, not_true_eq_false, not_false_eq_true, d5', hw]
                      rw [W_scrub]
                      simp only [scrub, tset]
                      exact ih (k + 1) (by omega) hq
        · have hc : pr.length ≠ ow.length ∨ su.length ≠ ow.length := .inr c4
          rw [if_pos hc] at hq
          have c3' : (pr.length : Int) = ow.length := by omega
          have c4' : ¬ (rs.length : Int) = ow.length := by rw [G.len]; omega
          simp only [af44, W_skip, W_ret, W_exit, W_region, W_seq, W_block, W_cond, PCondW_true, PCondW_false, PCondW_dec, PGuardW_tt, PGuardW_ff, PGuardW_tf, PGuardW_ft, PGuardW_tuple, PGuardW_dec_t, PGuardW_dec_f, pickV_true, pickV_false, pickV_dec, KSeq_eq, KBlock_eq, WL_eq, WO_nil, WO_none, WO_some, KPut_eq, KRes_eq, KFalse, WS_call, WS_move, WS_pick, WS_alloc, WS_box, WS_build, WS_buildSlice, WS_load, WS_loadAgg, WS_store, WS_nilCheck, WS_bin, WS_eqB, WS_isNil, WS_eqCells, WS_un, WS_convInt, WS_mkFunc, WS_makeMap, WS_makeSlice, WS_slice, WS_fieldAddr, WS_field, WS_fieldN, WS_indexAddr, WS_indexAddrA, WS_index, WS_extract, WS_len, WS_append, WS_max, PPtr_ptr, PInt_int, PBool_bool, PSome_some, PAgg_agg, PTuple_tuple, PSlice_slice, PSlice_nil, PLen_nil, PLen_slice, PCall_func, put, tset, tget, ev, bnd, fill_one, fill1_int, scrub, padTo, aresAll, ares, packRes, abin_add, abin_sub, abin_mul, abin_eql, abin_neq, abin_lss, abin_leq, abin_gtr, abin_geq, aun_not, maxV_two, List.length_cons, List.length_nil, List.replicate, List.cons_append, List.nil_append, List.append_nil, List.map_cons, List.map_nil, Nat.reduceAdd, Nat.reduceSub, ite_true, ite_false, if_true, if_false, Bool.false_eq_true, reduceIte, decide_true, decide_false, Bool.not_true, Bool.not_false, beq_self_eq_true, List.length_map, ne_eq, not_true_eq_false, not_false_eq_true, AV.cells, hone, hh1, b0, b1, b2, G.o.plen, G.p.plen, G.s.plen, c1', c2', c3', c4', true_and]
          exact hq
      · have hc : pr.length ≠ ow.length ∨ su.length ≠ ow.length := .inl c3
        rw [if_pos hc] at hq
        have c3' : ¬ (pr.length : Int) = ow.length := by omega
        simp only [af44, W_skip, W_ret, W_exit, W_region, W_seq, W_block, W_cond, PCondW_true, PCondW_false, PCondW_dec, PGuardW_tt, PGuardW_ff, PGuardW_tf, PGuardW_ft, PGuardW_tuple, PGuardW_dec_t, PGuardW_dec_f, pickV_true, pickV_false, pickV_dec, KSeq_eq, KBlock_eq, WL_eq, WO_nil, WO_none, WO_some, KPut_eq, KRes_eq, KFalse, WS_call, WS_move, WS_pick, WS_alloc, WS_box, WS_build, WS_buildSlice, WS_load, WS_loadAgg, WS_store, WS_nilCheck, WS_bin, WS_eqB, WS_isNil, WS_eqCells, WS_un, WS_convInt, WS_mkFunc, WS_makeMap, WS_makeSlice, WS_slice, WS_fieldAddr, WS_field, WS_fieldN, WS_indexAddr, WS_indexAddrA, WS_index, WS_extract, WS_len, WS_append, WS_max, PPtr_ptr, PInt_int, PBool_bool, PSome_some, PAgg_agg, PTuple_tuple, PSlice_slice, PSlice_nil, PLen_nil, PLen_slice, PCall_func, put, tset, tget, ev, bnd, fill_one, fill1_int, scrub, padTo, aresAll, ares, packRes, abin_add, abin_sub, abin_mul, abin_eql, abin_neq, abin_lss, abin_leq, abin_gtr, abin_geq, aun_not, maxV_two, List.length_cons, List.length_nil, List.replicate, List.cons_append, List.nil_append, List.append_nil, List.map_cons, List.map_nil, Nat.reduceAdd, Nat.reduceSub, ite_true, ite_false, if_true, if_false, Bool.false_eq_true, reduceIte, decide_true, decide_false, Bool.not_true, Bool.not_false, beq_self_eq_true, List.length_map, ne_eq, not_true_eq_false, not_false_eq_true, AV.cells, hone, hh1, b0, b1, b2, G.o.plen, G.p.plen, G.s.plen, c1', c2', c3', true_and]
        exact hq

/-- The winner of a play. -/
def winLoop (pr : List Int) (n : Int) : Int → List Int → Int × Int
  | most, [] => (IntKind.u8.wrap (most.tmod 2), 0)
  | most, v :: l => if v < 0 ∨ n ≤ v then (0, 8) else winLoop pr n (max most (pr.getD v.toNat 0)) l
def winM (ow pr : List Int) (su : List (List Int)) (loop : List Int) : Int × Int :=
  if checkM ow pr su ≠ 0 then (0, checkM ow pr su) else if loop.length = 0 then (0, 3) else winLoop pr ow.length 0 loop

omit T in
theorem checkM_len {ow pr : List Int} {su : List (List Int)} (h : checkM ow pr su = 0) : 0 < ow.length ∧ ow.length ≤ 4096 ∧ pr.length = ow.length ∧ su.length = ow.length ∧ checkLoop ow pr 0 su = 0 := by
  unfold checkM at h
  split at h
  · cases h
  · split at h
    · cases h
    · split at h
      · cases h
      · exact ⟨by omega, by omega, by omega, by omega, h⟩

theorem winner_spec {h : H} {vo vp vs lv : AV} {rs : List AV} {ow pr loop : List Int} {su : List (List Int)} (G0 : Gm vo vp vs rs ow pr su h) (hl0 : SlV lv (loop.map i64) h) (hm : loop.length < big) {Q : AV → H → Prop}
    (hq0 : ∀ h', Ext h h' → Q (.tuple [u8 (winM ow pr su loop).1, i64 (winM ow pr su loop).2]) h') :
    C (lim tab) 87 [.agg [vo, vp, vs], lv] h Q := by
  rw [C_fn T.h87]
  have e1 := Ext.alloc h (.cells 0 true [vo, vp, vs])
  have hlt1 : h.next < (h.alloc (.cells 0 true [vo, vp, vs])).next := by simp
  have b0 : ∀ i, getCell (h.alloc (.cells 0 true [vo, vp, vs])) h.next i = [vo, vp, vs][i]? := box_cell h _
  have b3 : getCells (h.alloc (.cells 0 true [vo, vp, vs])) h.next 0 3 = some [vo, vp, vs] := box_cells h _ 3 rfl
  have hone : [vo, vp, vs].all AV.one = true := by simp [G0.o.one, G0.p.one, G0.s.one]
  have G1 := G0.ext e1
  generalize hh1 : h.alloc (.cells 0 true [vo, vp, vs]) = h1 at *
  simp only [af87, W_skip, W_ret, W_exit, W_region, W_seq, W_block, W_cond, PCondW_true, PCondW_false, PCondW_dec, PGuardW_tt, PGuardW_ff, PGuardW_tf, PGuardW_ft, PGuardW_tuple, PGuardW_dec_t, PGuardW_dec_f, pickV_true, pickV_false, pickV_dec, KSeq_eq, KBlock_eq, WL_eq, WO_nil, WO_none, WO_some, KPut_eq, KRes_eq, KFalse, WS_call, WS_move, WS_pick, WS_alloc, WS_box, WS_build, WS_buildSlice, WS_load, WS_loadAgg, WS_store, WS_nilCheck, WS_bin, WS_eqB, WS_isNil, WS_eqCells, WS_un, WS_convInt, WS_mkFunc, WS_makeMap, WS_makeSlice, WS_slice, WS_fieldAddr, WS_field, WS_fieldN, WS_indexAddr, WS_indexAddrA, WS_index, WS_extract, WS_len, WS_append, WS_max, PPtr_ptr, PInt_int, PBool_bool, PSome_some, PAgg_agg, PTuple_tuple, PSlice_slice, PSlice_nil, PLen_nil, PLen_slice, PCall_func, put, tset, tget, ev, bnd, fill_one, fill1_int, scrub, padTo, aresAll, ares, packRes, abin_add, abin_sub, abin_mul, abin_eql, abin_neq, abin_lss, abin_leq, abin_gtr, abin_geq, aun_not, maxV_two, List.length_cons, List.length_nil, List.replicate, List.cons_append, List.nil_append, List.append_nil, List.map_cons, List.map_nil, Nat.reduceAdd, Nat.reduceSub, ite_true, ite_false, if_true, if_false, Bool.false_eq_true, reduceIte, decide_true, decide_false, Bool.not_true, Bool.not_false, beq_self_eq_true, List.length_map, ne_eq, not_true_eq_false, not_false_eq_true, AV.cells, hone, hh1, b3, true_and]
  refine check_spec T G1 fun h2 e2 => ?_
  have G := G1.ext e2
  have hl := (hl0.ext e1).ext e2
  have c0 : getCell h2 h.next 0 = some vo := by rw [ext_cell e2 hlt1, b0]; rfl
  have c1 : getCell h2 h.next 1 = some vp := by rw [ext_cell e2 hlt1, b0]; rfl
  have hq := hq0 h2 (e1.trans e2)
  unfold winM at hq
  by_cases hc : checkM ow pr su = 0
  · rw [if_neg (by simpa using hc)] at hq
    by_cases hz : loop.length = 0
    · rw [if_pos hz] at hq
      have hz' : (loop.length : Int) = 0 := by omega
      simp only [W_skip, W_ret, W_exit, W_region, W_seq, W_block, W_cond, PCondW_true, PCondW_false, PCondW_dec, PGuardW_tt, PGuardW_ff, PGuardW_tf, PGuardW_ft, PGuardW_tuple, PGuardW_dec_t, PGuardW_dec_f, pickV_true, pickV_false, pickV_dec, KSeq_eq, KBlock_eq, WL_eq, WO_nil, WO_none, WO_some, KPut_eq, KRes_eq, KFalse, WS_call, WS_move, WS_pick, WS_alloc, WS_box, WS_build, WS_buildSlice, WS_load, WS_loadAgg, WS_store, WS_nilCheck, WS_bin, WS_eqB, WS_isNil, WS_eqCells, WS_un, WS_convInt, WS_mkFunc, WS_makeMap, WS_makeSlice, WS_slice, WS_fieldAddr, WS_field, WS_fieldN, WS_indexAddr, WS_indexAddrA, WS_index, WS_extract, WS_len, WS_append, WS_max, PPtr_ptr, PInt_int, PBool_bool, PSome_some, PAgg_agg, PTuple_tuple, PSlice_slice, PSlice_nil, PLen_nil, PLen_slice, PCall_func, put, tset, tget, ev, bnd, fill_one, fill1_int, scrub, padTo, aresAll, ares, packRes, abin_add, abin_sub, abin_mul, abin_eql, abin_neq, abin_lss, abin_leq, abin_gtr, abin_geq, aun_not, maxV_two, List.length_cons, List.length_nil, List.replicate, List.cons_append, List.nil_append, List.append_nil, List.map_cons, List.map_nil, Nat.reduceAdd, Nat.reduceSub, ite_true, ite_false, if_true, if_false, Bool.false_eq_true, reduceIte, decide_true, decide_false, Bool.not_true, Bool.not_false, beq_self_eq_true, List.length_map, ne_eq, not_true_eq_false, not_false_eq_true, hc, hl.plen, hz']
      exact hq
    · rw [if_neg hz] at hq
      have hz' : ¬ (loop.length : Int) = 0 := by omega
      obtain ⟨_, _, hpl, _, _⟩ := checkM_len hc
      simp only [W_skip, W_ret, W_exit, W_region, W_seq, W_block, W_cond, PCondW_true, PCondW_false, PCondW_dec, PGuardW_tt, PGuardW_ff, PGuardW_tf, PGuardW_ft, PGuardW_tuple, PGuardW_dec_t, PGuardW_dec_f, pickV_true, pickV_false, pickV_dec, KSeq_eq, KBlock_eq, WL_eq, WO_nil, WO_none, WO_some, KPut_eq, KRes_eq, KFalse, WS_call, WS_move, WS_pick, WS_alloc, WS_box, WS_build, WS_buildSlice, WS_load, WS_loadAgg, WS_store, WS_nilCheck, WS_bin, WS_eqB, WS_isNil, WS_eqCells, WS_un, WS_convInt, WS_mkFunc, WS_makeMap, WS_makeSlice, WS_slice, WS_fieldAddr, WS_field, WS_fieldN, WS_indexAddr, WS_indexAddrA, WS_index, WS_extract, WS_len, WS_append, WS_max, PPtr_ptr, PInt_int, PBool_bool, PSome_some, PAgg_agg, PTuple_tuple, PSlice_slice, PSlice_nil, PLen_nil, PLen_slice, PCall_func, put, tset, tget, ev, bnd, fill_one, fill1_int, scrub, padTo, aresAll, ares, packRes, abin_add, abin_sub, abin_mul, abin_eql, abin_neq, abin_lss, abin_leq, abin_gtr, abin_geq, aun_not, maxV_two, List.length_cons, List.length_nil, List.replicate, List.cons_append, List.nil_append, List.append_nil, List.map_cons, List.map_nil, Nat.reduceAdd, Nat.reduceSub, ite_true, ite_false, if_true, if_false, Bool.false_eq_true, reduceIte, decide_true, decide_false, Bool.not_true, Bool.not_false, beq_self_eq_true, List.length_map, ne_eq, not_true_eq_false, not_false_eq_true, hc, hl.plen, hz']
      rw [W_scrub]
      simp only [scrub, tset]
      refine (?_ : ∀ (m k : Nat) (most : Int), k + m = loop.length → Q (.tuple [u8 (winLoop pr ow.length most (loop.drop k)).1, i64 (winLoop pr ow.length most (loop.drop k)).2]) h2 → W (lim tab) (.loop ?sc ?x) [.junk, .junk, .ptr h.next 0, .junk, .junk, .junk, .junk, i64 most, .junk, .junk, .junk, .junk, .junk, .junk, .junk, .junk, .junk, .junk, lv, i64 loop.length, i64 k, .junk, .junk, .junk, .junk, .junk, .junk, .junk, .junk, .junk, .junk, .junk, .junk, .junk, .junk, .junk, .junk, .junk, .junk, .junk, .junk, .junk, .junk, .junk] h2 ?q1 ?q2 ?q3) loop.length 0 0 (by simp) hq
      intro m
      induction m with
      | zero =>
        intro k most hk hq
        rw [W_round]
        have hd : loop.drop k = [] := List.drop_eq_nil_of_le (by omega)
        rw [hd] at hq
        have hlt : ¬ (k : Int) < loop.length := by omega
        simp only [W_skip, W_ret, W_exit, W_region, W_seq, W_block, W_cond, PCondW_true, PCondW_false, PCondW_dec, PGuardW_tt, PGuardW_ff, PGuardW_tf, PGuardW_ft, PGuardW_tuple, PGuardW_dec_t, PGuardW_dec_f, pickV_true, pickV_false, pickV_dec, KSeq_eq, KBlock_eq, WL_eq, WO_nil, WO_none, WO_some, KPut_eq, KRes_eq, KFalse, WS_call, WS_move, WS_pick, WS_alloc, WS_box, WS_build, WS_buildSlice, WS_load, WS_loadAgg, WS_store, WS_nilCheck, WS_bin, WS_eqB, WS_isNil, WS_eqCells, WS_un, WS_convInt, WS_mkFunc, WS_makeMap, WS_makeSlice, WS_slice, WS_fieldAddr, WS_field, WS_fieldN, WS_indexAddr, WS_indexAddrA, WS_index, WS_extract, WS_len, WS_append, WS_max, PPtr_ptr, PInt_int, PBool_bool, PSome_some, PAgg_agg, PTuple_tuple, PSlice_slice, PSlice_nil, PLen_nil, PLen_slice, PCall_func, put, tset, tget, ev, bnd, fill_one, fill1_int, scrub, padTo, aresAll, ares, packRes, abin_add, abin_sub, abin_mul, abin_eql, abin_neq, abin_lss, abin_leq, abin_gtr, abin_geq, aun_not, maxV_two, List.length_cons, List.length_nil, List.replicate, List.cons_append, List.nil_append, List.append_nil, List.map_cons, List.map_nil, Nat.reduceAdd, Nat.reduceSub, ite_true, ite_false, if_true, if_false, Bool.false_eq_true, reduceIte, decide_true, decide_false, Bool.not_true, Bool.not_false, beq_self_eq_true, List.length_map, ne_eq, not_true_eq_false, not_false_eq_true, hlt, abin_rem _ _ _ (by decide : (2 : Int) ≠ 0), WS_convInt]
        exact hq
      | succ m ih =>
        intro k most hk hq
        rw [W_round]
        have hk' : k < loop.length := by omega
        rw [drop_get hk'] at hq
        have hlt : (k : Int) < loop.length := by omega
        have hkm : k < (loop.map i64).length := by simpa using hk'
        have hw := wrap_succ (k := k) (by omega)
        unfold winLoop at hq
        by_cases d1 : loop[k] < 0
        · rw [if_pos (.inl d1)] at hq
          simp only [W_skip, W_ret, W_exit, W_region, W_seq, W_block, W_cond, PCondW_true, PCondW_false, PCondW_dec, PGuardW_tt, PGuardW_ff, PGuardW_tf, PGuardW_ft, PGuardW_tuple, PGuardW_dec_t, PGuardW_dec_f, pickV_true, pickV_false, pickV_dec, KSeq_eq, KBlock_eq, WL_eq, WO_nil, WO_none, WO_some, KPut_eq, KRes_eq, KFalse, WS_call, WS_move, WS_pick, WS_alloc, WS_box, WS_build, WS_buildSlice, WS_load, WS_loadAgg, WS_store, WS_nilCheck, WS_bin, WS_eqB, WS_isNil, WS_eqCells, WS_un, WS_convInt, WS_mkFunc, WS_makeMap, WS_makeSlice, WS_slice, WS_fieldAddr, WS_field, WS_fieldN, WS_indexAddr, WS_indexAddrA, WS_index, WS_extract, WS_len, WS_append, WS_max, PPtr_ptr, PInt_int, PBool_bool, PSome_some, PAgg_agg, PTuple_tuple, PSlice_slice, PSlice_nil, PLen_nil, PLen_slice, PCall_func, put, tset, tget, ev, bnd, fill_one, fill1_int, scrub, padTo, aresAll, ares, packRes, abin_add, abin_sub, abin_mul, abin_eql, abin_neq, abin_lss, abin_leq, abin_gtr, abin_geq, aun_not, maxV_two, List.length_cons, List.length_nil, List.replicate, List.cons_append, List.nil_append, List.append_nil, List.map_cons, List.map_nil, Nat.reduceAdd, Nat.reduceSub, ite_true, ite_false, if_true, if_false, Bool.false_eq_true, reduceIte, decide_true, decide_false, Bool.not_true, Bool.not_false, beq_self_eq_true, List.length_map, ne_eq, not_true_eq_false, not_false_eq_true, hlt, hl.pidx hkm, hl.cell hkm, List.getElem_map, d1]
          exact hq
        · by_cases d2 : (ow.length : Int) ≤ loop[k]
          · rw [if_pos (.inr d2)] at hq
            simp only [W_skip, W_ret, W_exit, W_region, W_seq, W_block, W_cond, PCondW_true, PCondW_false, PCondW_dec, PGuardW_tt, PGuardW_ff, PGuardW_tf, PGuardW_ft, PGuardW_tuple, PGuardW_dec_t, PGuardW_dec_f, pickV_true, pickV_false, pickV_dec, KSeq_eq, KBlock_eq, WL_eq, WO_nil, WO_none, WO_some, KPut_eq, KRes_eq, KFalse, WS_call, WS_move, WS_pick, WS_alloc, WS_box, WS_build, WS_buildSlice, WS_load, WS_loadAgg, WS_store, WS_nilCheck, WS_bin, WS_eqB, WS_isNil, WS_eqCells, WS_un, WS_convInt, WS_mkFunc, WS_makeMap, WS_makeSlice, WS_slice, WS_fieldAddr, WS_field, WS_fieldN, WS_indexAddr, WS_indexAddrA, WS_index, WS_extract, WS_len, WS_append, WS_max, PPtr_ptr, PInt_int, PBool_bool, PSome_some, PAgg_agg, PTuple_tuple, PSlice_slice, PSlice_nil, PLen_nil, PLen_slice, PCall_func, put, tset, tget, ev, bnd, fill_one, fill1_int, scrub, padTo, aresAll, ares, packRes, abin_add, abin_sub, abin_mul, abin_eql, abin_neq, abin_lss, abin_leq, abin_gtr, abin_geq, aun_not, maxV_two, List.length_cons, List.length_nil, List.replicate, List.cons_append, List.nil_append, List.append_nil, List.map_cons, List.map_nil, Nat.reduceAdd, Nat.reduceSub, ite_true, ite_false, if_true, if_false, Bool.false_eq_true, reduceIte, decide_true, decide_false, Bool.not_true, Bool.not_false, beq_self_eq_true, List.length_map, ne_eq, not_true_eq_false, not_false_eq_true, hlt, hl.pidx hkm, hl.cell hkm, List.getElem_map, d1, d2, c0, G.o.plen]
            exact hq
          · rw [if_neg (by omega)] at hq
            have hpi : loop[k].toNat < (pr.map i64).length := by simp; omega
            have hpg : pr.getD loop[k].toNat 0 = pr[loop[k].toNat]'(by simpa using hpi) := by
              simp only [List.length_map] at hpi; simp [hpi]
            rw [hpg] at hq
            simp only [W_skip, W_ret, W_exit, W_region, W_seq, W_block, W_cond, PCondW_true, PCondW_false, PCondW_dec, PGuardW_tt, PGuardW_ff, PGuardW_tf, PGuardW_ft, PGuardW_tuple, PGuardW_dec_t, PGuardW_dec_f, pickV_true, pickV_false, pickV_dec, KSeq_eq, KBlock_eq, WL_eq, WO_nil, WO_none, WO_some, KPut_eq, KRes_eq, KFalse, WS_call, WS_move, WS_pick, WS_alloc, WS_box, WS_build, WS_buildSlice, WS_load, WS_loadAgg, WS_store, WS_nilCheck, WS_bin, WS_eqB, WS_isNil, WS_eqCells, WS_un, WS_convInt, WS_mkFunc, WS_makeMap, WS_makeSlice, WS_slice, WS_fieldAddr, WS_field, WS_fieldN, WS_indexAddr, WS_indexAddrA, WS_index, WS_extract, WS_len, WS_append, WS_max, PPtr_ptr, PInt_int, PBool_bool, PSome_some, PAgg_agg, PTuple_tuple, PSlice_slice, PSlice_nil, PLen_nil, PLen_slice, PCall_func, put, tset, tget, ev, bnd, fill_one, fill1_int, scrub, padTo, aresAll, ares, packRes, abin_add, abin_sub, abin_mul, abin_eql, abin_neq, abin_lss, abin_leq, abin_gtr, abin_geq, aun_not, maxV_two, List.length_cons, List.length_nil, List.replicate, List.cons_append, List.nil_append, List.append_nil, List.map_cons, List.map_nil, Nat.reduceAdd, Nat.reduceSub, ite_true, ite_false, if_true, if_false, Bool.false_eq_true, reduceIte, decide_true, decide_false, Bool.not_true, Bool.not_false, beq_self_eq_true, List.length_map, ne_eq, not_true_eq_false, not_false_eq_true, hlt, hl.pidx hkm, hl.cell hkm, List.getElem_map, d1, d2, c0, c1, G.o.plen, G.p.pidxI (by omega) hpi, G.p.cell hpi, hw]
            rw [W_scrub]
            simp only [scrub, tset]
            exact ih (k + 1) _ (by omega) hq
  · rw [if_pos (by simpa using hc)] at hq
    simp only [W_skip, W_ret, W_exit, W_region, W_seq, W_block, W_cond, PCondW_true, PCondW_false, PCondW_dec, PGuardW_tt, PGuardW_ff, PGuardW_tf, PGuardW_ft, PGuardW_tuple, PGuardW_dec_t, PGuardW_dec_f, pickV_true, pickV_false, pickV_dec, KSeq_eq, KBlock_eq, WL_eq, WO_nil, WO_none, WO_some, KPut_eq, KRes_eq, KFalse, WS_call, WS_move, WS_pick, WS_alloc, WS_box, WS_build, WS_buildSlice, WS_load, WS_loadAgg, WS_store, WS_nilCheck, WS_bin, WS_eqB, WS_isNil, WS_eqCells, WS_un, WS_convInt, WS_mkFunc, WS_makeMap, WS_makeSlice, WS_slice, WS_fieldAddr, WS_field, WS_fieldN, WS_indexAddr, WS_indexAddrA, WS_index, WS_extract, WS_len, WS_append, WS_max, PPtr_ptr, PInt_int, PBool_bool, PSome_some, PAgg_agg, PTuple_tuple, PSlice_slice, PSlice_nil, PLen_nil, PLen_slice, PCall_func, put, tset, tget, ev, bnd, fill_one, fill1_int, scrub, padTo, aresAll, ares, packRes, abin_add, abin_sub, abin_mul, abin_eql, abin_neq, abin_lss, abin_leq, abin_gtr, abin_geq, aun_not, maxV_two, List.length_cons, List.length_nil, List.replicate, List.cons_append, List.nil_append, List.append_nil, List.map_cons, List.map_nil, Nat.reduceAdd, Nat.reduceSub, ite_true, ite_false, if_true, if_false, Bool.false_eq_true, reduceIte, decide_true, decide_false, Bool.not_true, Bool.not_false, beq_self_eq_true, List.length_map, ne_eq, not_true_eq_false, not_false_eq_true, hc]
    exact hq
theorem refWinner_spec {h : H} {vo vp vs lv : AV} {rs : List AV} {ow pr loop : List Int} {su : List (List Int)} (G0 : Gm vo vp vs rs ow pr su h) (hl0 : SlV lv (loop.map i64) h) (hm : loop.length < big) {Q : AV → H → Prop}
    (hq0 : ∀ h', Ext h h' → Q (.tuple [u8 (winM ow pr su loop).1, i64 (winM ow pr su loop).2]) h') :
    C (lim tab) 88 [.agg [vo, vp, vs], lv] h Q := by
  rw [C_fn T.h88]
  have e1 := Ext.alloc h (.cells 0 true [vo, vp, vs])
  have hlt1 : h.next < (h.alloc (.cells 0 true [vo, vp, vs])).next := by simp
  have b0 : ∀ i, getCell (h.alloc (.cells 0 true [vo, vp, vs])) h.next i = [vo, vp, vs][i]? := box_cell h _
  have b3 : getCells (h.alloc (.cells 0 true [vo, vp, vs])) h.next 0 3 = some [vo, vp, vs] := box_cells h _ 3 rfl
  have hone : [vo, vp, vs].all AV.one = true := by simp [G0.o.one, G0.p.one, G0.s.one]
  have G1 := G0.ext e1
  generalize hh1 : h.alloc (.cells 0 true [vo, vp, vs]) = h1 at *
  simp only [af88, W_skip, W_ret, W_exit, W_region, W_seq, W_block, W_cond, PCondW_true, PCondW_false, PCondW_dec, PGuardW_tt, PGuardW_ff, PGuardW_tf, PGuardW_ft, PGuardW_tuple, PGuardW_dec_t, PGuardW_dec_f, pickV_true, pickV_false, pickV_dec, KSeq_eq, KBlock_eq, WL_eq, WO_nil, WO_none, WO_some, KPut_eq, KRes_eq, KFalse, WS_call, WS_move, WS_pick, WS_alloc, WS_box, WS_build, WS_buildSlice, WS_load, WS_loadAgg, WS_store, WS_nilCheck, WS_bin, WS_eqB, WS_isNil, WS_eqCells, WS_un, WS_convInt, WS_mkFunc, WS_makeMap, WS_makeSlice, WS_slice, WS_fieldAddr, WS_field, WS_fieldN, WS_indexAddr, WS_indexAddrA, WS_index, WS_extract, WS_len, WS_append, WS_max, PPtr_ptr, PInt_int, PBool_bool, PSome_some, PAgg_agg, PTuple_tuple, PSlice_slice, PSlice_nil, PLen_nil, PLen_slice, PCall_func, put, tset, tget, ev, bnd, fill_one, fill1_int, scrub, padTo, aresAll, ares, packRes, abin_add, abin_sub, abin_mul, abin_eql, abin_neq, abin_lss, abin_leq, abin_gtr, abin_geq, aun_not, maxV_two, List.length_cons, List.length_nil, List.replicate, List.cons_append, List.nil_append, List.append_nil, List.map_cons, List.map_nil, Nat.reduceAdd, Nat.reduceSub, ite_true, ite_false, if_true, if_false, Bool.false_eq_true, reduceIte, decide_true, decide_false, Bool.not_true, Bool.not_false, beq_self_eq_true, List.length_map, ne_eq, not_true_eq_false, not_false_eq_true, AV.cells, hone, hh1, b3, true_and]
  refine refCheck_spec T G1 fun h2 e2 => ?_
  have G := G1.ext e2
  have hl := (hl0.ext e1).ext e2
  have c0 : getCell h2 h.next 0 = some vo := by rw [ext_cell e2 hlt1, b0]; rfl
  have c1 : getCell h2 h.next 1 = some vp := by rw [ext_cell e2 hlt1, b0]; rfl
  have hq := hq0 h2 (e1.trans e2)
  unfold winM at hq
  by_cases hc : checkM ow pr su = 0
  · rw [if_neg (by simpa using hc)] at hq
    by_cases hz : loop.length = 0
    · rw [if_pos hz] at hq
      have hz' : (loop.length : Int) = 0 := by omega
      simp only [W_skip, W_ret, W_exit, W_region, W_seq, W_block, W_cond, PCondW_true, PCondW_false, PCondW_dec, PGuardW_tt, PGuardW_ff, PGuardW_tf, PGuardW_ft, PGuardW_tuple, PGuardW_dec_t, PGuardW_dec_f, pickV_true, pickV_false, pickV_dec, KSeq_eq, KBlock_eq, WL_eq, WO_nil, WO_none, WO_some, KPut_eq, KRes_eq, KFalse, WS_call, WS_move, WS_pick, WS_alloc, WS_box, WS_build, WS_buildSlice, WS_load, WS_loadAgg, WS_store, WS_nilCheck, WS_bin, WS_eqB, WS_isNil, WS_eqCells, WS_un, WS_convInt, WS_mkFunc, WS_makeMap, WS_makeSlice, WS_slice, WS_fieldAddr, WS_field, WS_fieldN, WS_indexAddr, WS_indexAddrA, WS_index, WS_extract, WS_len, WS_append, WS_max, PPtr_ptr, PInt_int, PBool_bool, PSome_some, PAgg_agg, PTuple_tuple, PSlice_slice, PSlice_nil, PLen_nil, PLen_slice, PCall_func, put, tset, tget, ev, bnd, fill_one, fill1_int, scrub, padTo, aresAll, ares, packRes, abin_add, abin_sub, abin_mul, abin_eql, abin_neq, abin_lss, abin_leq, abin_gtr, abin_geq, aun_not, maxV_two, List.length_cons, List.length_nil, List.replicate, List.cons_append, List.nil_append, List.append_nil, List.map_cons, List.map_nil, Nat.reduceAdd, Nat.reduceSub, ite_true, ite_false, if_true, if_false, Bool.false_eq_true, reduceIte, decide_true, decide_false, Bool.not_true, Bool.not_false, beq_self_eq_true, List.length_map, ne_eq, not_true_eq_false, not_false_eq_true, hc, hl.plen, hz']
      exact hq
    · rw [if_neg hz] at hq
      have hz' : ¬ (loop.length : Int) = 0 := by omega
      obtain ⟨_, _, hpl, _, _⟩ := checkM_len hc
      simp only [W_skip, W_ret, W_exit, W_region, W_seq, W_block, W_cond, PCondW_true, PCondW_false, PCondW_dec, PGuardW_tt, PGuardW_ff, PGuardW_tf, PGuardW_ft, PGuardW_tuple, PGuardW_dec_t, PGuardW_dec_f, pickV_true, pickV_false, pickV_dec, KSeq_eq, KBlock_eq, WL_eq, WO_nil, WO_none, WO_some, KPut_eq, KRes_eq, KFalse, WS_call, WS_move, WS_pick, WS_alloc, WS_box, WS_build, WS_buildSlice, WS_load, WS_loadAgg, WS_store, WS_nilCheck, WS_bin, WS_eqB, WS_isNil, WS_eqCells, WS_un, WS_convInt, WS_mkFunc, WS_makeMap, WS_makeSlice, WS_slice, WS_fieldAddr, WS_field, WS_fieldN, WS_indexAddr, WS_indexAddrA, WS_index, WS_extract, WS_len, WS_append, WS_max, PPtr_ptr, PInt_int, PBool_bool, PSome_some, PAgg_agg, PTuple_tuple, PSlice_slice, PSlice_nil, PLen_nil, PLen_slice, PCall_func, put, tset, tget, ev, bnd, fill_one, fill1_int, scrub, padTo, aresAll, ares, packRes, abin_add, abin_sub, abin_mul, abin_eql, abin_neq, abin_lss, abin_leq, abin_gtr, abin_geq, aun_not, maxV_two, List.length_cons, List.length_nil, List.replicate, List.cons_append, List.nil_append, List.append_nil, List.map_cons, List.map_nil, Nat.reduceAdd, Nat.reduceSub, ite_true, ite_false, if_true, if_false, Bool.false_eq_true, reduceIte, decide_true, decide_false, Bool.not_true, Bool.not_false, beq_self_eq_true, List.length_map, ne_eq, not_true_eq_false, not_false_eq_true, hc, hl.plen, hz']
      rw [W_scrub]
      simp only [scrub, tset]
      refine (?_ : ∀ (m k : Nat) (most : Int), k + m = loop.length → Q (.tuple [u8 (winLoop pr ow.length most (loop.drop k)).1, i64 (winLoop pr ow.length most (loop.drop k)).2]) h2 → W (lim tab) (.loop ?sc ?x) [.junk, lv, .ptr h.next 0, .junk, .junk, .junk, .junk, i64 most, i64 k, .junk, .junk, .junk, .junk, .junk, .junk, .junk, .junk, .junk, .junk, .junk, .junk, .junk, .junk, .junk, .junk, .junk, .junk, .junk, .junk, .junk, .junk, .junk, .junk, .junk, .junk, .junk, .junk, .junk, .junk, .junk, .junk, .junk, .junk, .junk, .junk, .junk, .junk, .junk, .junk, .junk, .junk] h2 ?q1 ?q2 ?q3) loop.length 0 0 (by simp) hq
      intro m
      induction m with
      | zero =>
        intro k most hk hq
        rw [W_round]
        have hd : loop.drop k = [] := List.drop_eq_nil_of_le (by omega)
        rw [hd] at hq
        have hlt : ¬ (k : Int) < loop.length := by omega
        simp only [W_skip, W_ret, W_exit, W_region, W_seq, W_block, W_cond, PCondW_true, PCondW_false, PCondW_dec, PGuardW_tt, PGuardW_ff, PGuardW_tf, PGuardW_ft, PGuardW_tuple, PGuardW_dec_t, PGuardW_dec_f, pickV_true, pickV_false, pickV_dec, KSeq_eq, KBlock_eq, WL_eq, WO_nil, WO_none, WO_some, KPut_eq, KRes_eq, KFalse, WS_call, WS_move, WS_pick, WS_alloc, WS_box, WS_build, WS_buildSlice, WS_load, WS_loadAgg, WS_store, WS_nilCheck, WS_bin, WS_eqB, WS_isNil, WS_eqCells, WS_un, WS_convInt, WS_mkFunc, WS_makeMap, WS_makeSlice, WS_slice, WS_fieldAddr, WS_field, WS_fieldN, WS_indexAddr, WS_indexAddrA, WS_index, WS_extract, WS_len, WS_append, WS_max, PPtr_ptr, PInt_int, PBool_bool, PSome_some, PAgg_agg, PTuple_tuple, PSlice_slice, PSlice_nil, PLen_nil, PLen_slice, PCall_func, put, tset, tget, ev, bnd, fill_one, fill1_int, scrub, padTo, aresAll, ares, packRes, abin_add, abin_sub, abin_mul, abin_eql, abin_neq, abin_lss, abin_leq, abin_gtr, abin_geq, aun_not, maxV_two, List.length_cons, List.length_nil, List.replicate, List.cons_append, List.nil_append, List.append_nil, List.map_cons, List.map_nil, Nat.reduceAdd, Nat.reduceSub, ite_true, ite_false, if_true, if_false, Bool.false_eq_true, reduceIte, decide_true, decide_false, Bool.not_true, Bool.not_false, beq_self_eq_true, List.length_map, ne_eq, not_true_eq_false, not_false_eq_true, hl.plen, hlt, abin_rem _ _ _ (by decide : (2 : Int) ≠ 0), WS_convInt]
        exact hq
      | succ m ih =>
        intro k most hk hq
        rw [W_round]
        have hk' : k < loop.length := by omega
        rw [drop_get hk'] at hq
        have hlt : (k : Int) < loop.length := by omega
        have hkm : k < (loop.map i64).length := by simpa using hk'
        have hw := wrap_succ (k := k) (by omega)
        unfold winLoop at hq
        by_cases d1 : loop[k] < 0
        · rw [if_pos (.inl d1)] at hq
          simp only [W_skip, W_ret, W_exit, W_region, W_seq, W_block, W_cond, PCondW_true, PCondW_false, PCondW_dec, PGuardW_tt, PGuardW_ff, PGuardW_tf, PGuardW_ft, PGuardW_tuple, PGuardW_dec_t, PGuardW_dec_f, pickV_true, pickV_false, pickV_dec, KSeq_eq, KBlock_eq, WL_eq, WO_nil, WO_none, WO_some, KPut_eq, KRes_eq, KFalse, WS_call, WS_move, WS_pick, WS_alloc, WS_box, WS_build, WS_buildSlice, WS_load, WS_loadAgg, WS_store, WS_nilCheck, WS_bin, WS_eqB, WS_isNil, WS_eqCells, WS_un, WS_convInt, WS_mkFunc, WS_makeMap, WS_makeSlice, WS_slice, WS_fieldAddr, WS_field, WS_fieldN, WS_indexAddr, WS_indexAddrA, WS_index, WS_extract, WS_len, WS_append, WS_max, PPtr_ptr, PInt_int, PBool_bool, PSome_some, PAgg_agg, PTuple_tuple, PSlice_slice, PSlice_nil, PLen_nil, PLen_slice, PCall_func, put, tset, tget, ev, bnd, fill_one, fill1_int, scrub, padTo, aresAll, ares, packRes, abin_add, abin_sub, abin_mul, abin_eql, abin_neq, abin_lss, abin_leq, abin_gtr, abin_geq, aun_not, maxV_two, List.length_cons, List.length_nil, List.replicate, List.cons_append, List.nil_append, List.append_nil, List.map_cons, List.map_nil, Nat.reduceAdd, Nat.reduceSub, ite_true, ite_false, if_true, if_false, Bool.false_eq_true, reduceIte, decide_true, decide_false, Bool.not_true, Bool.not_false, beq_self_eq_true, List.length_map, ne_eq, not_true_eq_false, not_false_eq_true, hl.plen, hlt, hl.pidx hkm, hl.cell hkm, List.getElem_map, d1]
          exact hq
        · by_cases d2 : (ow.length : Int) ≤ loop[k]
          · rw [if_pos (.inr d2)] at hq
            simp only [W_skip, W_ret, W_exit, W_region, W_seq, W_block, W_cond, PCondW_true, PCondW_false, PCondW_dec, PGuardW_tt, PGuardW_ff, PGuardW_tf, PGuardW_ft, PGuardW_tuple, PGuardW_dec_t, PGuardW_dec_f, pickV_true, pickV_false, pickV_dec, KSeq_eq, KBlock_eq, WL_eq, WO_nil, WO_none, WO_some, KPut_eq, KRes_eq, KFalse, WS_call, WS_move, WS_pick, WS_alloc, WS_box, WS_build, WS_buildSlice, WS_load, WS_loadAgg, WS_store, WS_nilCheck, WS_bin, WS_eqB, WS_isNil, WS_eqCells, WS_un, WS_convInt, WS_mkFunc, WS_makeMap, WS_makeSlice, WS_slice, WS_fieldAddr, WS_field, WS_fieldN, WS_indexAddr, WS_indexAddrA, WS_index, WS_extract, WS_len, WS_append, WS_max, PPtr_ptr, PInt_int, PBool_bool, PSome_some, PAgg_agg, PTuple_tuple, PSlice_slice, PSlice_nil, PLen_nil, PLen_slice, PCall_func, put, tset, tget, ev, bnd, fill_one, fill1_int, scrub, padTo, aresAll, ares, packRes, abin_add, abin_sub, abin_mul, abin_eql, abin_neq, abin_lss, abin_leq, abin_gtr, abin_geq, aun_not, maxV_two, List.length_cons, List.length_nil, List.replicate, List.cons_append, List.nil_append, List.append_nil, List.map_cons, List.map_nil, Nat.reduceAdd, Nat.reduceSub, ite_true, ite_false, if_true, if_false, Bool.false_eq_true, reduceIte, decide_true, decide_false, Bool.not_true, Bool.not_false, beq_self_eq_true, List.length_map, ne_eq, not_true_eq_false, not_false_eq_true, hl.plen, hlt, hl.pidx hkm, hl.cell hkm, List.getElem_map, d1, d2, c0, G.o.plen]
            exact hq
          · rw [if_neg (by omega)] at hq
            have hpi : loop[k].toNat < (pr.map i64).length := by simp; omega
            have hpg : pr.getD loop[k].toNat 0 = pr[loop[k].toNat]'(by simpa using hpi) := by
              simp only [List.length_map] at hpi; simp [hpi]
            rw [hpg] at hq
            simp only [W_skip, W_ret, W_exit, W_region, W_seq, W_block, W_cond, PCondW_true, PCondW_false, PCondW_dec, PGuardW_tt, PGuardW_ff, PGuardW_tf, PGuardW_ft, PGuardW_tuple, PGuardW_dec_t, PGuardW_dec_f, pickV_true, pickV_false, pickV_dec, KSeq_eq, KBlock_eq, WL_eq, WO_nil, WO_none, WO_some, KPut_eq, KRes_eq, KFalse, WS_call, WS_move, WS_pick, WS_alloc, WS_box, WS_build, WS_buildSlice, WS_load, WS_loadAgg, WS_store, WS_nilCheck, WS_bin, WS_eqB, WS_isNil, WS_eqCells, WS_un, WS_convInt, WS_mkFunc, WS_makeMap, WS_makeSlice, WS_slice, WS_fieldAddr, WS_field, WS_fieldN, WS_indexAddr, WS_indexAddrA, WS_index, WS_extract, WS_len, WS_append, WS_max, PPtr_ptr, PInt_int, PBool_bool, PSome_some, PAgg_agg, PTuple_tuple, PSlice_slice, PSlice_nil, PLen_nil, PLen_slice, PCall_func, put, tset, tget, ev, bnd, fill_one, fill1_int, scrub, padTo, aresAll, ares, packRes, abin_add, abin_sub, abin_mul, abin_eql, abin_neq, abin_lss, abin_leq, abin_gtr, abin_geq, aun_not, maxV_two, List.length_cons, List.length_nil, List.replicate, List.cons_append, List.nil_append, List.append_nil, List.map_cons, List.map_nil, Nat.reduceAdd, Nat.reduceSub, ite_true, ite_false, if_true, if_false, Bool.false_eq_true, reduceIte, decide_true, decide_false, Bool.not_true, Bool.not_false, beq_self_eq_true, List.length_map, ne_eq, not_true_eq_false, not_false_eq_true, hl.plen, hlt, hl.pidx hkm, hl.cell hkm, List.getElem_map, d1, d2, c0, c1, G.o.plen, G.p.pidxI (by omega) hpi, G.p.cell hpi, hw]
            rw [W_scrub]
            simp only [scrub, tset]
            exact ih (k + 1) _ (by omega) hq
  · rw [if_pos (by simpa using hc)] at hq
    simp only [W_skip, W_ret, W_exit, W_region, W_seq, W_block, W_cond, PCondW_true, PCondW_false, PCondW_dec, PGuardW_tt, PGuardW_ff, PGuardW_tf, PGuardW_ft, PGuardW_tuple, PGuardW_dec_t, PGuardW_dec_f, pickV_true, pickV_false, pickV_dec, KSeq_eq, KBlock_eq, WL_eq, WO_nil, WO_none, WO_some, KPut_eq, KRes_eq, KFalse, WS_call, WS_move, WS_pick, WS_alloc, WS_box, WS_build, WS_buildSlice, WS_load, WS_loadAgg, WS_store, WS_nilCheck, WS_bin, WS_eqB, WS_isNil, WS_eqCells, WS_un, WS_convInt, WS_mkFunc, WS_makeMap, WS_makeSlice, WS_slice, WS_fieldAddr, WS_field, WS_fieldN, WS_indexAddr, WS_indexAddrA, WS_index, WS_extract, WS_len, WS_append, WS_max, PPtr_ptr, PInt_int, PBool_bool, PSome_some, PAgg_agg, PTuple_tuple, PSlice_slice, PSlice_nil, PLen_nil, PLen_slice, PCall_func, put, tset, tget, ev, bnd, fill_one, fill1_int, scrub, padTo, aresAll, ares, packRes, abin_add, abin_sub, abin_mul, abin_eql, abin_neq, abin_lss, abin_leq, abin_gtr, abin_geq, aun_not, maxV_two, List.length_cons, List.length_nil, List.replicate, List.cons_append, List.nil_append, List.append_nil, List.map_cons, List.map_nil, Nat.reduceAdd, Nat.reduceSub, ite_true, ite_false, if_true, if_false, Bool.false_eq_true, reduceIte, decide_true, decide_false, Bool.not_true, Bool.not_false, beq_self_eq_true, List.length_map, ne_eq, not_true_eq_false, not_false_eq_true, hc]
    exact hq
end
end Go.Am.Ar
