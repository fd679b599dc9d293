/- Results are written over: what that leaves as it was, and what goes with it. -/
import Derived.Test.YtjknfmndhbafoaaArPb
import Derived.Test.YtjknfmndhbafoaaPmL
set_option linter.unusedVariables false
set_option linter.unusedSimpArgs false
set_option maxRecDepth 10000
namespace Go.Am.Ar

section
variable {tab : FuncId → Option AF} (T : HasA tab)
include T

theorem overInts_o {w : PWd} {h h1 : H} (hw : ∀ b o, w.imm b = some o → b < h.next) {f : Bool} {xs : List Int} {v : AV} (hr : RepV w (slI f true .i64 xs) v) (hm : xs.length < big) (hi : Ovr w h h1) {Q : AV → H → Prop} (hq : ∀ h2, Ovr w h h2 → Kp w h1 h2 → Q (.tuple []) h2) :
    C (lim tab) 20 [v] h1 Q := by
  rw [C_fn T.h20]
  simp only [af20, W_skip, W_ret, W_regionD, WD_nil, WD_none, KPutD_eq, chkOk_nil, true_and, AO.effect, W_exit, W_region, W_seq, W_block, W_cond, PCondW_true, PCondW_false, PCondW_dec, PGuardW_tt, PGuardW_ff, PGuardW_tf, PGuardW_ft, PGuardW_tuple, PGuardW_dec_t, PGuardW_dec_f, pickV_true, pickV_false, pickV_dec, KSeq_eq, KBlock_eq, WL_eq, WO_nil, WO_none, WO_some, KPut_eq, KCall_eq, KRes_eq, KFalse, WS_call, WS_move, WS_pick, WS_alloc, WS_box, WS_build, WS_buildSlice, WS_load, WS_loadAgg, WS_store, WS_nilCheck, WS_bin, WS_eqB, WS_isNil, WS_eqCells, WS_un, WS_convInt, WS_mkFunc, WS_makeMap, WS_makeSlice, WS_slice, WS_fieldAddr, WS_field, WS_fieldN, WS_indexAddr, WS_indexAddrA, WS_index, WS_extract, WS_len, WS_append, WS_max, PPtr_ptr, PInt_int, PBool_bool, PSome_some, PAgg_agg, PTuple_tuple, PSlice_slice, PSlice_nil, PLen_nil, PLen_slice, PCall_func, put, tset, tget, ev, bnd, scrub, padTo, aresAll, ares, packRes, abin_add, abin_sub, abin_mul, abin_eql, abin_neq, abin_lss, abin_leq, abin_gtr, abin_geq, aun_not, maxV_two, List.length_cons, List.length_nil, List.replicate, List.cons_append, List.nil_append, List.append_nil, List.map_cons, List.map_nil, Nat.reduceAdd, Nat.reduceSub, ite_true, ite_false, if_true, if_false, Bool.false_eq_true, reduceIte, decide_true, decide_false, Bool.not_true, Bool.not_false, beq_self_eq_true, List.length_map, ne_eq, not_true_eq_false, not_false_eq_true]
  rw [W_scrub]
  simp only [scrub, tset]
  rcases ov_sl hr with ⟨rfl, hx⟩ | ⟨fl, b, off, ver, bcs, rfl, e1, e2, e3, e4⟩
  · rw [W_round]
    have hlt : ¬ (0 : Int) < 0 := by omega
    simp only [W_skip, W_ret, W_regionD, WD_nil, WD_none, KPutD_eq, chkOk_nil, true_and, AO.effect, W_exit, W_region, W_seq, W_block, W_cond, PCondW_true, PCondW_false, PCondW_dec, PGuardW_tt, PGuardW_ff, PGuardW_tf, PGuardW_ft, PGuardW_tuple, PGuardW_dec_t, PGuardW_dec_f, pickV_true, pickV_false, pickV_dec, KSeq_eq, KBlock_eq, WL_eq, WO_nil, WO_none, WO_some, KPut_eq, KCall_eq, KRes_eq, KFalse, WS_call, WS_move, WS_pick, WS_alloc, WS_box, WS_build, WS_buildSlice, WS_load, WS_loadAgg, WS_store, WS_nilCheck, WS_bin, WS_eqB, WS_isNil, WS_eqCells, WS_un, WS_convInt, WS_mkFunc, WS_makeMap, WS_makeSlice, WS_slice, WS_fieldAddr, WS_field, WS_fieldN, WS_indexAddr, WS_indexAddrA, WS_index, WS_extract, WS_len, WS_append, WS_max, PPtr_ptr, PInt_int, PBool_bool, PSome_some, PAgg_agg, PTuple_tuple, PSlice_slice, PSlice_nil, PLen_nil, PLen_slice, PCall_func, put, tset, tget, ev, bnd, scrub, padTo, aresAll, ares, packRes, abin_add, abin_sub, abin_mul, abin_eql, abin_neq, abin_lss, abin_leq, abin_gtr, abin_geq, aun_not, maxV_two, List.length_cons, List.length_nil, List.replicate, List.cons_append, List.nil_append, List.append_nil, List.map_cons, List.map_nil, Nat.reduceAdd, Nat.reduceSub, ite_true, ite_false, if_true, if_false, Bool.false_eq_true, reduceIte, decide_true, decide_false, Bool.not_true, Bool.not_false, beq_self_eq_true, List.length_map, ne_eq, not_true_eq_false, not_false_eq_true, hlt]
    exact hq h1 hi (.refl w h1)
  · refine (?_ : ∀ (m k : Nat) (h' : H), k + m = xs.length → Ovr w h h' → Kp w h1 h' → W (lim tab) (.loop ?sc ?x) [.slice fl 1 b off xs.length, .junk, i64 k, .junk, .junk, .junk, .junk, .junk, .junk, .junk, .junk, .junk] h' ?q1 ?q2 ?q3) xs.length 0 h1 (by simp) hi (.refl w h1)
    intro m
    induction m with
    | zero =>
      intro k h' hk hv hkp
      rw [W_round]
      have hlt : ¬ (k : Int) < xs.length := by omega
      simp only [W_skip, W_ret, W_regionD, WD_nil, WD_none, KPutD_eq, chkOk_nil, true_and, AO.effect, W_exit, W_region, W_seq, W_block, W_cond, PCondW_true, PCondW_false, PCondW_dec, PGuardW_tt, PGuardW_ff, PGuardW_tf, PGuardW_ft, PGuardW_tuple, PGuardW_dec_t, PGuardW_dec_f, pickV_true, pickV_false, pickV_dec, KSeq_eq, KBlock_eq, WL_eq, WO_nil, WO_none, WO_some, KPut_eq, KCall_eq, KRes_eq, KFalse, WS_call, WS_move, WS_pick, WS_alloc, WS_box, WS_build, WS_buildSlice, WS_load, WS_loadAgg, WS_store, WS_nilCheck, WS_bin, WS_eqB, WS_isNil, WS_eqCells, WS_un, WS_convInt, WS_mkFunc, WS_makeMap, WS_makeSlice, WS_slice, WS_fieldAddr, WS_field, WS_fieldN, WS_indexAddr, WS_indexAddrA, WS_index, WS_extract, WS_len, WS_append, WS_max, PPtr_ptr, PInt_int, PBool_bool, PSome_some, PAgg_agg, PTuple_tuple, PSlice_slice, PSlice_nil, PLen_nil, PLen_slice, PCall_func, put, tset, tget, ev, bnd, scrub, padTo, aresAll, ares, packRes, abin_add, abin_sub, abin_mul, abin_eql, abin_neq, abin_lss, abin_leq, abin_gtr, abin_geq, aun_not, maxV_two, List.length_cons, List.length_nil, List.replicate, List.cons_append, List.nil_append, List.append_nil, List.map_cons, List.map_nil, Nat.reduceAdd, Nat.reduceSub, ite_true, ite_false, if_true, if_false, Bool.false_eq_true, reduceIte, decide_true, decide_false, Bool.not_true, Bool.not_false, beq_self_eq_true, List.length_map, ne_eq, not_true_eq_false, not_false_eq_true, hlt]
      exact hq h' hv hkp
    | succ m ih =>
      intro k h' hk hv hkp
      rw [W_round]
      have hlt : (k : Int) < xs.length := by omega
      have h0 : (0 : Int) ≤ k := by omega
      have hwr := wrap_succ (k := k) (by omega)
      obtain ⟨y, z, hy, hz, hrz⟩ := e4 k (by simp; omega)
      obtain ⟨kz, nz, rfl⟩ := ov_int hy hrz
      obtain ⟨h2, hp, hv2, hkp2⟩ := hv.put hw e1 e2 (getSome_lt hz) (i64 (-77)) rfl ⟨_, _, hz⟩
      simp only [W_skip, W_ret, W_regionD, WD_nil, WD_none, KPutD_eq, chkOk_nil, true_and, AO.effect, W_exit, W_region, W_seq, W_block, W_cond, PCondW_true, PCondW_false, PCondW_dec, PGuardW_tt, PGuardW_ff, PGuardW_tf, PGuardW_ft, PGuardW_tuple, PGuardW_dec_t, PGuardW_dec_f, pickV_true, pickV_false, pickV_dec, KSeq_eq, KBlock_eq, WL_eq, WO_nil, WO_none, WO_some, KPut_eq, KCall_eq, KRes_eq, KFalse, WS_call, WS_move, WS_pick, WS_alloc, WS_box, WS_build, WS_buildSlice, WS_load, WS_loadAgg, WS_store, WS_nilCheck, WS_bin, WS_eqB, WS_isNil, WS_eqCells, WS_un, WS_convInt, WS_mkFunc, WS_makeMap, WS_makeSlice, WS_slice, WS_fieldAddr, WS_field, WS_fieldN, WS_indexAddr, WS_indexAddrA, WS_index, WS_extract, WS_len, WS_append, WS_max, PPtr_ptr, PInt_int, PBool_bool, PSome_some, PAgg_agg, PTuple_tuple, PSlice_slice, PSlice_nil, PLen_nil, PLen_slice, PCall_func, put, tset, tget, ev, bnd, scrub, padTo, aresAll, ares, packRes, abin_add, abin_sub, abin_mul, abin_eql, abin_neq, abin_lss, abin_leq, abin_gtr, abin_geq, aun_not, maxV_two, List.length_cons, List.length_nil, List.replicate, List.cons_append, List.nil_append, List.append_nil, List.map_cons, List.map_nil, Nat.reduceAdd, Nat.reduceSub, ite_true, ite_false, if_true, if_false, Bool.false_eq_true, reduceIte, decide_true, decide_false, Bool.not_true, Bool.not_false, beq_self_eq_true, List.length_map, ne_eq, not_true_eq_false, not_false_eq_true, pidx_slice, hlt, h0, true_and, and_self, Int.toNat_natCast, Nat.mul_one, AV.cells, hp, hwr]
      rw [W_scrub]
      simp only [scrub, tset]
      exact ih (k + 1) h2 (by omega) hv2 (hkp.trans hkp2)

theorem overBytes_o {w : PWd} {h h1 : H} (hw : ∀ b o, w.imm b = some o → b < h.next) {f : Bool} {xs : List Int} {v : AV} (hr : RepV w (slI f true .u8 xs) v) (hm : xs.length < big) (hi : Ovr w h h1) {Q : AV → H → Prop} (hq : ∀ h2, Ovr w h h2 → Kp w h1 h2 → Q (.tuple []) h2) :
    C (lim tab) 53 [v] h1 Q := by
  rw [C_fn T.h53]
  simp only [af53, W_skip, W_ret, W_regionD, WD_nil, WD_none, KPutD_eq, chkOk_nil, true_and, AO.effect, W_exit, W_region, W_seq, W_block, W_cond, PCondW_true, PCondW_false, PCondW_dec, PGuardW_tt, PGuardW_ff, PGuardW_tf, PGuardW_ft, PGuardW_tuple, PGuardW_dec_t, PGuardW_dec_f, pickV_true, pickV_false, pickV_dec, KSeq_eq, KBlock_eq, WL_eq, WO_nil, WO_none, WO_some, KPut_eq, KCall_eq, KRes_eq, KFalse, WS_call, WS_move, WS_pick, WS_alloc, WS_box, WS_build, WS_buildSlice, WS_load, WS_loadAgg, WS_store, WS_nilCheck, WS_bin, WS_eqB, WS_isNil, WS_eqCells, WS_un, WS_convInt, WS_mkFunc, WS_makeMap, WS_makeSlice, WS_slice, WS_fieldAddr, WS_field, WS_fieldN, WS_indexAddr, WS_indexAddrA, WS_index, WS_extract, WS_len, WS_append, WS_max, PPtr_ptr, PInt_int, PBool_bool, PSome_some, PAgg_agg, PTuple_tuple, PSlice_slice, PSlice_nil, PLen_nil, PLen_slice, PCall_func, put, tset, tget, ev, bnd, scrub, padTo, aresAll, ares, packRes, abin_add, abin_sub, abin_mul, abin_eql, abin_neq, abin_lss, abin_leq, abin_gtr, abin_geq, aun_not, maxV_two, List.length_cons, List.length_nil, List.replicate, List.cons_append, List.nil_append, List.append_nil, List.map_cons, List.map_nil, Nat.reduceAdd, Nat.reduceSub, ite_true, ite_false, if_true, if_false, Bool.false_eq_true, reduceIte, decide_true, decide_false, Bool.not_true, Bool.not_false, beq_self_eq_true, List.length_map, ne_eq, not_true_eq_false, not_false_eq_true]
  rw [W_scrub]
  simp only [scrub, tset]
  rcases ov_sl hr with ⟨rfl, hx⟩ | ⟨fl, b, off, ver, bcs, rfl, e1, e2, e3, e4⟩
  · rw [W_round]
    have hlt : ¬ (0 : Int) < 0 := by omega
    simp only [W_skip, W_ret, W_regionD, WD_nil, WD_none, KPutD_eq, chkOk_nil, true_and, AO.effect, W_exit, W_region, W_seq, W_block, W_cond, PCondW_true, PCondW_false, PCondW_dec, PGuardW_tt, PGuardW_ff, PGuardW_tf, PGuardW_ft, PGuardW_tuple, PGuardW_dec_t, PGuardW_dec_f, pickV_true, pickV_false, pickV_dec, KSeq_eq, KBlock_eq, WL_eq, WO_nil, WO_none, WO_some, KPut_eq, KCall_eq, KRes_eq, KFalse, WS_call, WS_move, WS_pick, WS_alloc, WS_box, WS_build, WS_buildSlice, WS_load, WS_loadAgg, WS_store, WS_nilCheck, WS_bin, WS_eqB, WS_isNil, WS_eqCells, WS_un, WS_convInt, WS_mkFunc, WS_makeMap, WS_makeSlice, WS_slice, WS_fieldAddr, WS_field, WS_fieldN, WS_indexAddr, WS_indexAddrA, WS_index, WS_extract, WS_len, WS_append, WS_max, PPtr_ptr, PInt_int, PBool_bool, PSome_some, PAgg_agg, PTuple_tuple, PSlice_slice, PSlice_nil, PLen_nil, PLen_slice, PCall_func, put, tset, tget, ev, bnd, scrub, padTo, aresAll, ares, packRes, abin_add, abin_sub, abin_mul, abin_eql, abin_neq, abin_lss, abin_leq, abin_gtr, abin_geq, aun_not, maxV_two, List.length_cons, List.length_nil, List.replicate, List.cons_append, List.nil_append, List.append_nil, List.map_cons, List.map_nil, Nat.reduceAdd, Nat.reduceSub, ite_true, ite_false, if_true, if_false, Bool.false_eq_true, reduceIte, decide_true, decide_false, Bool.not_true, Bool.not_false, beq_self_eq_true, List.length_map, ne_eq, not_true_eq_false, not_false_eq_true, hlt]
    exact hq h1 hi (.refl w h1)
  · refine (?_ : ∀ (m k : Nat) (h' : H), k + m = xs.length → Ovr w h h' → Kp w h1 h' → W (lim tab) (.loop ?sc ?x) [.slice fl 1 b off xs.length, .junk, i64 k, .junk, .junk, .junk, .junk, .junk, .junk, .junk, .junk, .junk] h' ?q1 ?q2 ?q3) xs.length 0 h1 (by simp) hi (.refl w h1)
    intro m
    induction m with
    | zero =>
      intro k h' hk hv hkp
      rw [W_round]
      have hlt : ¬ (k : Int) < xs.length := by omega
      simp only [W_skip, W_ret, W_regionD, WD_nil, WD_none, KPutD_eq, chkOk_nil, true_and, AO.effect, W_exit, W_region, W_seq, W_block, W_cond, PCondW_true, PCondW_false, PCondW_dec, PGuardW_tt, PGuardW_ff, PGuardW_tf, PGuardW_ft, PGuardW_tuple, PGuardW_dec_t, PGuardW_dec_f, pickV_true, pickV_false, pickV_dec, KSeq_eq, KBlock_eq, WL_eq, WO_nil, WO_none, WO_some, KPut_eq, KCall_eq, KRes_eq, KFalse, WS_call, WS_move, WS_pick, WS_alloc, WS_box, WS_build, WS_buildSlice, WS_load, WS_loadAgg, WS_store, WS_nilCheck, WS_bin, WS_eqB, WS_isNil, WS_eqCells, WS_un, WS_convInt, WS_mkFunc, WS_makeMap, WS_makeSlice, WS_slice, WS_fieldAddr, WS_field, WS_fieldN, WS_indexAddr, WS_indexAddrA, WS_index, WS_extract, WS_len, WS_append, WS_max, PPtr_ptr, PInt_int, PBool_bool, PSome_some, PAgg_agg, PTuple_tuple, PSlice_slice, PSlice_nil, PLen_nil, PLen_slice, PCall_func, put, tset, tget, ev, bnd, scrub, padTo, aresAll, ares, packRes, abin_add, abin_sub, abin_mul, abin_eql, abin_neq, abin_lss, abin_leq, abin_gtr, abin_geq, aun_not, maxV_two, List.length_cons, List.length_nil, List.replicate, List.cons_append, List.nil_append, List.append_nil, List.map_cons, List.map_nil, Nat.reduceAdd, Nat.reduceSub, ite_true, ite_false, if_true, if_false, Bool.false_eq_true, reduceIte, decide_true, decide_false, Bool.not_true, Bool.not_false, beq_self_eq_true, List.length_map, ne_eq, not_true_eq_false, not_false_eq_true, hlt]
      exact hq h' hv hkp
    | succ m ih =>
      intro k h' hk hv hkp
      rw [W_round]
      have hlt : (k : Int) < xs.length := by omega
      have h0 : (0 : Int) ≤ k := by omega
      have hwr := wrap_succ (k := k) (by omega)
      obtain ⟨y, z, hy, hz, hrz⟩ := e4 k (by simp; omega)
      obtain ⟨kz, nz, rfl⟩ := ov_int hy hrz
      obtain ⟨h2, hp, hv2, hkp2⟩ := hv.put hw e1 e2 (getSome_lt hz) (u8 201) rfl ⟨_, _, hz⟩
      simp only [W_skip, W_ret, W_regionD, WD_nil, WD_none, KPutD_eq, chkOk_nil, true_and, AO.effect, W_exit, W_region, W_seq, W_block, W_cond, PCondW_true, PCondW_false, PCondW_dec, PGuardW_tt, PGuardW_ff, PGuardW_tf, PGuardW_ft, PGuardW_tuple, PGuardW_dec_t, PGuardW_dec_f, pickV_true, pickV_false, pickV_dec, KSeq_eq, KBlock_eq, WL_eq, WO_nil, WO_none, WO_some, KPut_eq, KCall_eq, KRes_eq, KFalse, WS_call, WS_move, WS_pick, WS_alloc, WS_box, WS_build, WS_buildSlice, WS_load, WS_loadAgg, WS_store, WS_nilCheck, WS_bin, WS_eqB, WS_isNil, WS_eqCells, WS_un, WS_convInt, WS_mkFunc, WS_makeMap, WS_makeSlice, WS_slice, WS_fieldAddr, WS_field, WS_fieldN, WS_indexAddr, WS_indexAddrA, WS_index, WS_extract, WS_len, WS_append, WS_max, PPtr_ptr, PInt_int, PBool_bool, PSome_some, PAgg_agg, PTuple_tuple, PSlice_slice, PSlice_nil, PLen_nil, PLen_slice, PCall_func, put, tset, tget, ev, bnd, scrub, padTo, aresAll, ares, packRes, abin_add, abin_sub, abin_mul, abin_eql, abin_neq, abin_lss, abin_leq, abin_gtr, abin_geq, aun_not, maxV_two, List.length_cons, List.length_nil, List.replicate, List.cons_append, List.nil_append, List.append_nil, List.map_cons, List.map_nil, Nat.reduceAdd, Nat.reduceSub, ite_true, ite_false, if_true, if_false, Bool.false_eq_true, reduceIte, decide_true, decide_false, Bool.not_true, Bool.not_false, beq_self_eq_true, List.length_map, ne_eq, not_true_eq_false, not_false_eq_true, pidx_slice, hlt, h0, true_and, and_self, Int.toNat_natCast, Nat.mul_one, AV.cells, hp, hwr]
      rw [W_scrub]
      simp only [scrub, tset]
      exact ih (k + 1) h2 (by omega) hv2 (hkp.trans hkp2)

theorem overRows_o {w : PWd} {h h1 : H} (hw : ∀ b o, w.imm b = some o → b < h.next) {f f' : Bool} {su : List (List Int)} {v : AV} (hr : RepV w (slR f true f' true .i64 su) v) (hm : su.length < big) (hmr : ∀ r ∈ su, r.length < big) (hi : Ovr w h h1) {Q : AV → H → Prop} (hq : ∀ h2, Ovr w h h2 → Kp w h1 h2 → Q (.tuple []) h2) :
    C (lim tab) 54 [v] h1 Q := by
  rw [C_fn T.h54]
  simp only [af54, W_skip, W_ret, W_regionD, WD_nil, WD_none, KPutD_eq, chkOk_nil, true_and, AO.effect, W_exit, W_region, W_seq, W_block, W_cond, PCondW_true, PCondW_false, PCondW_dec, PGuardW_tt, PGuardW_ff, PGuardW_tf, PGuardW_ft, PGuardW_tuple, PGuardW_dec_t, PGuardW_dec_f, pickV_true, pickV_false, pickV_dec, KSeq_eq, KBlock_eq, WL_eq, WO_nil, WO_none, WO_some, KPut_eq, KCall_eq, KRes_eq, KFalse, WS_call, WS_move, WS_pick, WS_alloc, WS_box, WS_build, WS_buildSlice, WS_load, WS_loadAgg, WS_store, WS_nilCheck, WS_bin, WS_eqB, WS_isNil, WS_eqCells, WS_un, WS_convInt, WS_mkFunc, WS_makeMap, WS_makeSlice, WS_slice, WS_fieldAddr, WS_field, WS_fieldN, WS_indexAddr, WS_indexAddrA, WS_index, WS_extract, WS_len, WS_append, WS_max, PPtr_ptr, PInt_int, PBool_bool, PSome_some, PAgg_agg, PTuple_tuple, PSlice_slice, PSlice_nil, PLen_nil, PLen_slice, PCall_func, put, tset, tget, ev, bnd, scrub, padTo, aresAll, ares, packRes, abin_add, abin_sub, abin_mul, abin_eql, abin_neq, abin_lss, abin_leq, abin_gtr, abin_geq, aun_not, maxV_two, List.length_cons, List.length_nil, List.replicate, List.cons_append, List.nil_append, List.append_nil, List.map_cons, List.map_nil, Nat.reduceAdd, Nat.reduceSub, ite_true, ite_false, if_true, if_false, Bool.false_eq_true, reduceIte, decide_true, decide_false, Bool.not_true, Bool.not_false, beq_self_eq_true, List.length_map, ne_eq, not_true_eq_false, not_false_eq_true]
  rw [W_scrub]
  simp only [scrub, tset]
  rcases ov_sl hr with ⟨rfl, hx⟩ | ⟨fl, b, off, ver, bcs, rfl, e1, e2, e3, e4⟩
  · rw [W_round]
    have hlt : ¬ (0 : Int) < 0 := by omega
    simp only [W_skip, W_ret, W_regionD, WD_nil, WD_none, KPutD_eq, chkOk_nil, true_and, AO.effect, W_exit, W_region, W_seq, W_block, W_cond, PCondW_true, PCondW_false, PCondW_dec, PGuardW_tt, PGuardW_ff, PGuardW_tf, PGuardW_ft, PGuardW_tuple, PGuardW_dec_t, PGuardW_dec_f, pickV_true, pickV_false, pickV_dec, KSeq_eq, KBlock_eq, WL_eq, WO_nil, WO_none, WO_some, KPut_eq, KCall_eq, KRes_eq, KFalse, WS_call, WS_move, WS_pick, WS_alloc, WS_box, WS_build, WS_buildSlice, WS_load, WS_loadAgg, WS_store, WS_nilCheck, WS_bin, WS_eqB, WS_isNil, WS_eqCells, WS_un, WS_convInt, WS_mkFunc, WS_makeMap, WS_makeSlice, WS_slice, WS_fieldAddr, WS_field, WS_fieldN, WS_indexAddr, WS_indexAddrA, WS_index, WS_extract, WS_len, WS_append, WS_max, PPtr_ptr, PInt_int, PBool_bool, PSome_some, PAgg_agg, PTuple_tuple, PSlice_slice, PSlice_nil, PLen_nil, PLen_slice, PCall_func, put, tset, tget, ev, bnd, scrub, padTo, aresAll, ares, packRes, abin_add, abin_sub, abin_mul, abin_eql, abin_neq, abin_lss, abin_leq, abin_gtr, abin_geq, aun_not, maxV_two, List.length_cons, List.length_nil, List.replicate, List.cons_append, List.nil_append, List.append_nil, List.map_cons, List.map_nil, Nat.reduceAdd, Nat.reduceSub, ite_true, ite_false, if_true, if_false, Bool.false_eq_true, reduceIte, decide_true, decide_false, Bool.not_true, Bool.not_false, beq_self_eq_true, List.length_map, ne_eq, not_true_eq_false, not_false_eq_true, hlt]
    exact hq h1 hi (.refl w h1)
  · refine (?_ : ∀ (m k : Nat) (h' : H), k + m = su.length → Ovr w h h' → Kp w h1 h' → W (lim tab) (.loop ?sc ?x) [.slice fl 1 b off su.length, .junk, i64 k, .junk, .junk, .junk, .junk, .junk, .junk, .junk, .junk, .junk, .junk, .junk] h' ?q1 ?q2 ?q3) su.length 0 h1 (by simp) hi (.refl w h1)
    intro m
    induction m with
    | zero =>
      intro k h' hk hv hkp
      rw [W_round]
      have hlt : ¬ (k : Int) < su.length := by omega
      simp only [W_skip, W_ret, W_regionD, WD_nil, WD_none, KPutD_eq, chkOk_nil, true_and, AO.effect, W_exit, W_region, W_seq, W_block, W_cond, PCondW_true, PCondW_false, PCondW_dec, PGuardW_tt, PGuardW_ff, PGuardW_tf, PGuardW_ft, PGuardW_tuple, PGuardW_dec_t, PGuardW_dec_f, pickV_true, pickV_false, pickV_dec, KSeq_eq, KBlock_eq, WL_eq, WO_nil, WO_none, WO_some, KPut_eq, KCall_eq, KRes_eq, KFalse, WS_call, WS_move, WS_pick, WS_alloc, WS_box, WS_build, WS_buildSlice, WS_load, WS_loadAgg, WS_store, WS_nilCheck, WS_bin, WS_eqB, WS_isNil, WS_eqCells, WS_un, WS_convInt, WS_mkFunc, WS_makeMap, WS_makeSlice, WS_slice, WS_fieldAddr, WS_field, WS_fieldN, WS_indexAddr, WS_indexAddrA, WS_index, WS_extract, WS_len, WS_append, WS_max, PPtr_ptr, PInt_int, PBool_bool, PSome_some, PAgg_agg, PTuple_tuple, PSlice_slice, PSlice_nil, PLen_nil, PLen_slice, PCall_func, put, tset, tget, ev, bnd, scrub, padTo, aresAll, ares, packRes, abin_add, abin_sub, abin_mul, abin_eql, abin_neq, abin_lss, abin_leq, abin_gtr, abin_geq, aun_not, maxV_two, List.length_cons, List.length_nil, List.replicate, List.cons_append, List.nil_append, List.append_nil, List.map_cons, List.map_nil, Nat.reduceAdd, Nat.reduceSub, ite_true, ite_false, if_true, if_false, Bool.false_eq_true, reduceIte, decide_true, decide_false, Bool.not_true, Bool.not_false, beq_self_eq_true, List.length_map, ne_eq, not_true_eq_false, not_false_eq_true, hlt]
      exact hq h' hv hkp
    | succ m ih =>
      intro k h' hk hv hkp
      rw [W_round]
      have hlt : (k : Int) < su.length := by omega
      have h0 : (0 : Int) ≤ k := by omega
      have hwr := wrap_succ (k := k) (by omega)
      obtain ⟨y, z, hy, hz, hrz⟩ := e4 k (by simp; omega)
      obtain ⟨row, hrow⟩ := some_of (xs := su) (k := k) (by omega)
      rw [List.getElem?_map, hrow] at hy
      cases hy
      have hne : ∀ k n, z ≠ .int k n := by
        rintro k n rfl
        have := rep_sl_ne hrz
        exact this
      obtain ⟨v2, b2, q1, q2, q3⟩ := hv.cells b ver bcs e1 e2
      have hc : getCell h' b (off + k) = some z := by unfold getCell; rw [q1]; exact q3 _ z hz hne
      simp only [W_skip, W_ret, W_regionD, WD_nil, WD_none, KPutD_eq, chkOk_nil, true_and, AO.effect, W_exit, W_region, W_seq, W_block, W_cond, PCondW_true, PCondW_false, PCondW_dec, PGuardW_tt, PGuardW_ff, PGuardW_tf, PGuardW_ft, PGuardW_tuple, PGuardW_dec_t, PGuardW_dec_f, pickV_true, pickV_false, pickV_dec, KSeq_eq, KBlock_eq, WL_eq, WO_nil, WO_none, WO_some, KPut_eq, KCall_eq, KRes_eq, KFalse, WS_call, WS_move, WS_pick, WS_alloc, WS_box, WS_build, WS_buildSlice, WS_load, WS_loadAgg, WS_store, WS_nilCheck, WS_bin, WS_eqB, WS_isNil, WS_eqCells, WS_un, WS_convInt, WS_mkFunc, WS_makeMap, WS_makeSlice, WS_slice, WS_fieldAddr, WS_field, WS_fieldN, WS_indexAddr, WS_indexAddrA, WS_index, WS_extract, WS_len, WS_append, WS_max, PPtr_ptr, PInt_int, PBool_bool, PSome_some, PAgg_agg, PTuple_tuple, PSlice_slice, PSlice_nil, PLen_nil, PLen_slice, PCall_func, put, tset, tget, ev, bnd, scrub, padTo, aresAll, ares, packRes, abin_add, abin_sub, abin_mul, abin_eql, abin_neq, abin_lss, abin_leq, abin_gtr, abin_geq, aun_not, maxV_two, List.length_cons, List.length_nil, List.replicate, List.cons_append, List.nil_append, List.append_nil, List.map_cons, List.map_nil, Nat.reduceAdd, Nat.reduceSub, ite_true, ite_false, if_true, if_false, Bool.false_eq_true, reduceIte, decide_true, decide_false, Bool.not_true, Bool.not_false, beq_self_eq_true, List.length_map, ne_eq, not_true_eq_false, not_false_eq_true, pidx_slice, hlt, h0, true_and, and_self, Int.toNat_natCast, Nat.mul_one, hc]
      refine overInts_o T hw hrz (hmr row (List.mem_of_getElem? hrow)) hv fun h2 hv2 hkp2 => ?_
      simp only [W_skip, W_ret, W_regionD, WD_nil, WD_none, KPutD_eq, chkOk_nil, true_and, AO.effect, W_exit, W_region, W_seq, W_block, W_cond, PCondW_true, PCondW_false, PCondW_dec, PGuardW_tt, PGuardW_ff, PGuardW_tf, PGuardW_ft, PGuardW_tuple, PGuardW_dec_t, PGuardW_dec_f, pickV_true, pickV_false, pickV_dec, KSeq_eq, KBlock_eq, WL_eq, WO_nil, WO_none, WO_some, KPut_eq, KCall_eq, KRes_eq, KFalse, WS_call, WS_move, WS_pick, WS_alloc, WS_box, WS_build, WS_buildSlice, WS_load, WS_loadAgg, WS_store, WS_nilCheck, WS_bin, WS_eqB, WS_isNil, WS_eqCells, WS_un, WS_convInt, WS_mkFunc, WS_makeMap, WS_makeSlice, WS_slice, WS_fieldAddr, WS_field, WS_fieldN, WS_indexAddr, WS_indexAddrA, WS_index, WS_extract, WS_len, WS_append, WS_max, PPtr_ptr, PInt_int, PBool_bool, PSome_some, PAgg_agg, PTuple_tuple, PSlice_slice, PSlice_nil, PLen_nil, PLen_slice, PCall_func, put, tset, tget, ev, bnd, scrub, padTo, aresAll, ares, packRes, abin_add, abin_sub, abin_mul, abin_eql, abin_neq, abin_lss, abin_leq, abin_gtr, abin_geq, aun_not, maxV_two, List.length_cons, List.length_nil, List.replicate, List.cons_append, List.nil_append, List.append_nil, List.map_cons, List.map_nil, Nat.reduceAdd, Nat.reduceSub, ite_true, ite_false, if_true, if_false, Bool.false_eq_true, reduceIte, decide_true, decide_false, Bool.not_true, Bool.not_false, beq_self_eq_true, List.length_map, ne_eq, not_true_eq_false, not_false_eq_true, hwr]
      rw [W_scrub]
      simp only [scrub, tset]
      exact ih (k + 1) h2 (by omega) hv2 (hkp.trans hkp2)

theorem overGame_ok {f1 f2 f3 f4 : Bool} {ow pr : List Int} {su : List (List Int)} (B : Bnd ow pr su) : OverOk tab 31 [gmP f1 true f2 true f3 true f4 true ow pr su] := by
  intro w h h1 args' hw hr hv
  match args', hr with
  | [x], hr =>
  obtain ⟨cs', rfl, hc⟩ := rep_agg hr.hd
  match cs', hc with
  | [vo, vp, vs], hc =>
  have r1 := hc.hd
  have r2 := hc.tl.hd
  have r3 := hc.tl.tl.hd
  have o1 : vo.one = true := rep_one r1 rfl
  have o2 : vp.one = true := rep_one r2 rfl
  have o3 : vs.one = true := rep_one r3 rfl
  have hone : [vo, vp, vs].all AV.one = true := by simp [o1, o2, o3]
  rw [C_fn T.h31]
  have v1 := hv.alloc hw (.cells 0 true [vo, vp, vs])
  have hnone : w.imm h1.next = none := by
    cases hc : w.imm h1.next with
    | none => rfl
    | some o => have := hw _ _ hc; have := hv.next; omega
  have hbox : ∀ {h' : H}, Kp w (h1.alloc (.cells 0 true [vo, vp, vs])) h' → ∀ i, getCell h' h1.next i = [vo, vp, vs][i]? := by
    intro h' hk i
    unfold getCell
    rw [hk.keep h1.next (by simp) (.inr hnone), H.get_alloc_new]
  have b1 := hbox (.refl w _)
  simp only [af31, W_skip, W_ret, W_regionD, WD_nil, WD_none, KPutD_eq, chkOk_nil, true_and, AO.effect, W_exit, W_region, W_seq, W_block, W_cond, PCondW_true, PCondW_false, PCondW_dec, PGuardW_tt, PGuardW_ff, PGuardW_tf, PGuardW_ft, PGuardW_tuple, PGuardW_dec_t, PGuardW_dec_f, pickV_true, pickV_false, pickV_dec, KSeq_eq, KBlock_eq, WL_eq, WO_nil, WO_none, WO_some, KPut_eq, KCall_eq, KRes_eq, KFalse, WS_call, WS_move, WS_pick, WS_alloc, WS_box, WS_build, WS_buildSlice, WS_load, WS_loadAgg, WS_store, WS_nilCheck, WS_bin, WS_eqB, WS_isNil, WS_eqCells, WS_un, WS_convInt, WS_mkFunc, WS_makeMap, WS_makeSlice, WS_slice, WS_fieldAddr, WS_field, WS_fieldN, WS_indexAddr, WS_indexAddrA, WS_index, WS_extract, WS_len, WS_append, WS_max, PPtr_ptr, PInt_int, PBool_bool, PSome_some, PAgg_agg, PTuple_tuple, PSlice_slice, PSlice_nil, PLen_nil, PLen_slice, PCall_func, put, tset, tget, ev, bnd, scrub, padTo, aresAll, ares, packRes, abin_add, abin_sub, abin_mul, abin_eql, abin_neq, abin_lss, abin_leq, abin_gtr, abin_geq, aun_not, maxV_two, List.length_cons, List.length_nil, List.replicate, List.cons_append, List.nil_append, List.append_nil, List.map_cons, List.map_nil, Nat.reduceAdd, Nat.reduceSub, ite_true, ite_false, if_true, if_false, Bool.false_eq_true, reduceIte, decide_true, decide_false, Bool.not_true, Bool.not_false, beq_self_eq_true, List.length_map, ne_eq, not_true_eq_false, not_false_eq_true, AV.cells, hone, b1, List.getElem?_cons_zero, List.getElem?_cons_succ]
  refine overBytes_o T hw r1 B.o v1 fun h2 v2 k2 => ?_
  have b2 := hbox k2
  simp only [W_skip, W_ret, W_regionD, WD_nil, WD_none, KPutD_eq, chkOk_nil, true_and, AO.effect, W_exit, W_region, W_seq, W_block, W_cond, PCondW_true, PCondW_false, PCondW_dec, PGuardW_tt, PGuardW_ff, PGuardW_tf, PGuardW_ft, PGuardW_tuple, PGuardW_dec_t, PGuardW_dec_f, pickV_true, pickV_false, pickV_dec, KSeq_eq, KBlock_eq, WL_eq, WO_nil, WO_none, WO_some, KPut_eq, KCall_eq, KRes_eq, KFalse, WS_call, WS_move, WS_pick, WS_alloc, WS_box, WS_build, WS_buildSlice, WS_load, WS_loadAgg, WS_store, WS_nilCheck, WS_bin, WS_eqB, WS_isNil, WS_eqCells, WS_un, WS_convInt, WS_mkFunc, WS_makeMap, WS_makeSlice, WS_slice, WS_fieldAddr, WS_field, WS_fieldN, WS_indexAddr, WS_indexAddrA, WS_index, WS_extract, WS_len, WS_append, WS_max, PPtr_ptr, PInt_int, PBool_bool, PSome_some, PAgg_agg, PTuple_tuple, PSlice_slice, PSlice_nil, PLen_nil, PLen_slice, PCall_func, put, tset, tget, ev, bnd, scrub, padTo, aresAll, ares, packRes, abin_add, abin_sub, abin_mul, abin_eql, abin_neq, abin_lss, abin_leq, abin_gtr, abin_geq, aun_not, maxV_two, List.length_cons, List.length_nil, List.replicate, List.cons_append, List.nil_append, List.append_nil, List.map_cons, List.map_nil, Nat.reduceAdd, Nat.reduceSub, ite_true, ite_false, if_true, if_false, Bool.false_eq_true, reduceIte, decide_true, decide_false, Bool.not_true, Bool.not_false, beq_self_eq_true, List.length_map, ne_eq, not_true_eq_false, not_false_eq_true, b2, List.getElem?_cons_zero, List.getElem?_cons_succ]
  refine overInts_o T hw r2 B.p v2 fun h3 v3 k3 => ?_
  have b3 := hbox (k2.trans k3)
  simp only [W_skip, W_ret, W_regionD, WD_nil, WD_none, KPutD_eq, chkOk_nil, true_and, AO.effect, W_exit, W_region, W_seq, W_block, W_cond, PCondW_true, PCondW_false, PCondW_dec, PGuardW_tt, PGuardW_ff, PGuardW_tf, PGuardW_ft, PGuardW_tuple, PGuardW_dec_t, PGuardW_dec_f, pickV_true, pickV_false, pickV_dec, KSeq_eq, KBlock_eq, WL_eq, WO_nil, WO_none, WO_some, KPut_eq, KCall_eq, KRes_eq, KFalse, WS_call, WS_move, WS_pick, WS_alloc, WS_box, WS_build, WS_buildSlice, WS_load, WS_loadAgg, WS_store, WS_nilCheck, WS_bin, WS_eqB, WS_isNil, WS_eqCells, WS_un, WS_convInt, WS_mkFunc, WS_makeMap, WS_makeSlice, WS_slice, WS_fieldAddr, WS_field, WS_fieldN, WS_indexAddr, WS_indexAddrA, WS_index, WS_extract, WS_len, WS_append, WS_max, PPtr_ptr, PInt_int, PBool_bool, PSome_some, PAgg_agg, PTuple_tuple, PSlice_slice, PSlice_nil, PLen_nil, PLen_slice, PCall_func, put, tset, tget, ev, bnd, scrub, padTo, aresAll, ares, packRes, abin_add, abin_sub, abin_mul, abin_eql, abin_neq, abin_lss, abin_leq, abin_gtr, abin_geq, aun_not, maxV_two, List.length_cons, List.length_nil, List.replicate, List.cons_append, List.nil_append, List.append_nil, List.map_cons, List.map_nil, Nat.reduceAdd, Nat.reduceSub, ite_true, ite_false, if_true, if_false, Bool.false_eq_true, reduceIte, decide_true, decide_false, Bool.not_true, Bool.not_false, beq_self_eq_true, List.length_map, ne_eq, not_true_eq_false, not_false_eq_true, b3, List.getElem?_cons_zero, List.getElem?_cons_succ]
  refine overRows_o T hw r3 B.s B.r v3 fun h4 v4 k4 => ?_
  simp only [W_skip, W_ret, W_regionD, WD_nil, WD_none, KPutD_eq, chkOk_nil, true_and, AO.effect, W_exit, W_region, W_seq, W_block, W_cond, PCondW_true, PCondW_false, PCondW_dec, PGuardW_tt, PGuardW_ff, PGuardW_tf, PGuardW_ft, PGuardW_tuple, PGuardW_dec_t, PGuardW_dec_f, pickV_true, pickV_false, pickV_dec, KSeq_eq, KBlock_eq, WL_eq, WO_nil, WO_none, WO_some, KPut_eq, KCall_eq, KRes_eq, KFalse, WS_call, WS_move, WS_pick, WS_alloc, WS_box, WS_build, WS_buildSlice, WS_load, WS_loadAgg, WS_store, WS_nilCheck, WS_bin, WS_eqB, WS_isNil, WS_eqCells, WS_un, WS_convInt, WS_mkFunc, WS_makeMap, WS_makeSlice, WS_slice, WS_fieldAddr, WS_field, WS_fieldN, WS_indexAddr, WS_indexAddrA, WS_index, WS_extract, WS_len, WS_append, WS_max, PPtr_ptr, PInt_int, PBool_bool, PSome_some, PAgg_agg, PTuple_tuple, PSlice_slice, PSlice_nil, PLen_nil, PLen_slice, PCall_func, put, tset, tget, ev, bnd, scrub, padTo, aresAll, ares, packRes, abin_add, abin_sub, abin_mul, abin_eql, abin_neq, abin_lss, abin_leq, abin_gtr, abin_geq, aun_not, maxV_two, List.length_cons, List.length_nil, List.replicate, List.cons_append, List.nil_append, List.append_nil, List.map_cons, List.map_nil, Nat.reduceAdd, Nat.reduceSub, ite_true, ite_false, if_true, if_false, Bool.false_eq_true, reduceIte, decide_true, decide_false, Bool.not_true, Bool.not_false, beq_self_eq_true, List.length_map, ne_eq, not_true_eq_false, not_false_eq_true]
  exact ⟨v4, ((Kp.alloc w h1 _).trans ((k2.trans k3).trans k4))⟩
end
end Go.Am.Ar

set_option linter.unusedVariables false
set_option linter.unusedSimpArgs false
set_option maxRecDepth 10000
namespace Go.Am.Ar

/-- A game and an error, as a call gives them. -/
abbrev resV (ow pr : List Int) (su : List (List Int)) (e : Int) : PV := .tuple [gmP false true false true false true false true ow pr su, p64 e]
theorem gz_wk (e : Int) : PvWk (.tuple [gz, p64 e]) (resV [] [] [] e) := by
  refine PvWk.tuple rfl fun i y z h1 h2 => ?_
  match i with
  | 0 =>
    cases h1; cases h2
    refine PvWk.agg rfl fun i y z h1 h2 => ?_
    match i with
    | 0 => cases h1; cases h2; exact PvWk.nils _ _ _
    | 1 => cases h1; cases h2; exact PvWk.nils _ _ _
    | 2 => cases h1; cases h2; exact PvWk.nils _ _ _
    | i + 3 => simp at h1
  | 1 => cases h1; cases h2; exact PvWk.refl _
  | i + 2 => simp at h1

theorem SemC_true {tab : FuncId → Option AF} {g : FuncId} (hg : tab g = some (.prim primTrue)) {M : Mem} {K : PV → Mem → Prop} (hk : K (.bool true) M) : SemC tab g [] M K := by
  intro w h args' h0 s ha
  have : args' = [] := List.length_eq_zero_iff.1 (by simpa using ha.len.symm)
  subst this
  unfold C
  refine ⟨.bool true, h, ?_, w, .bool true, M, PStp.refl (Nat.le_refl _) w h, s, .bool true, hk⟩
  rw [lim_call]
  simp only [acallF, hg, primTrue]

theorem dualM_res (ow pr : List Int) (su : List (List Int)) : ∃ a b c e, PvWk (dualM ow pr su) (resV a b c e) ∧ a.length ≤ ow.length ∧ b.length ≤ pr.length ∧ (c = [] ∨ c = su) := by
  unfold dualM
  split
  · split
    · exact ⟨[], [], [], 4, gz_wk 4, by simp, by simp, .inl rfl⟩
    · exact ⟨_, _, _, 0, PvWk.refl _, by simp [dualO], by simp [dualP], .inr rfl⟩
  · exact ⟨[], [], [], _, gz_wk _, by simp, by simp, .inl rfl⟩
theorem rowM_len (keep row : List Int) : (rowM keep row).length ≤ row.length := by
  unfold rowM; rw [List.length_map]; exact List.length_filter_le _ _
theorem restrictM_res (ow pr : List Int) (su : List (List Int)) (keep : List Int) {n : Nat} (hn : ∀ r ∈ su, r.length ≤ n) : ∃ a b c e, PvWk (restrictM ow pr su keep) (resV a b c e) ∧ a.length ≤ keep.length ∧ b.length ≤ keep.length ∧ c.length ≤ keep.length ∧ ∀ r ∈ c, r.length ≤ n := by
  unfold restrictM
  split
  · split
    · exact ⟨[], [], [], 3, gz_wk 3, by simp, by simp, by simp, by simp⟩
    · split
      · exact ⟨[], [], [], 13, gz_wk 13, by simp, by simp, by simp, by simp⟩
      · refine ⟨_, _, _, 0, PvWk.refl _, by simp, by simp, by simp, fun r hr => ?_⟩
        obtain ⟨v, _, rfl⟩ := List.mem_map.1 hr
        refine Nat.le_trans (rowM_len _ _) ?_
        simp only [List.getD]
        cases hx : su[v.toNat]? with
        | none => simp
        | some row => exact hn row (List.mem_of_getElem? hx)
  · exact ⟨[], [], [], _, gz_wk _, by simp, by simp, by simp, by simp⟩

section
variable {tab : FuncId → Option AF} (T : HasA tab)
include T

theorem gamesMatch_top {ow pr keep : List Int} {su : List (List Int)} : Top tab (af8).body (ppad [gmP false false false false false false false false ow pr su, slI false false .i64 keep] (af8).ntmps) [] (PKLaw (af8).results) (PKLaw (af8).results) := by
  simp only [af8]
  refine Top_seq (Top_run ?_)
  simp only [PP, pchk, pold, PKNo, ppack, PObj.under, pput, ptset, ptget, pev, ofAV, ofAV1, ppad, pfill, prepl, List.replicate, AO.effect, Nat.reduceAdd, Nat.reduceSub, Nat.reduceMul, Nat.reduceLT, Nat.reduceLeDiff, Nat.reduceEqDiff, Nat.reduceBEq, Int.reduceToNat, Int.reduceLT, Int.reduceLE, Int.reduceEq, Int.reduceAdd, Int.reduceSub, Int.reduceNeg, reduceIte, reduceCtorEq]
  refine Top_seq (Top_run ?_)
  simp only [PP, pchk, pold, PKNo, ppack, PObj.under, pput, ptset, ptget, pev, ofAV, ofAV1, ppad, pfill, prepl, List.replicate, AO.effect, Nat.reduceAdd, Nat.reduceSub, Nat.reduceMul, Nat.reduceLT, Nat.reduceLeDiff, Nat.reduceEqDiff, Nat.reduceBEq, Int.reduceToNat, Int.reduceLT, Int.reduceLE, Int.reduceEq, Int.reduceAdd, Int.reduceSub, Int.reduceNeg, reduceIte, reduceCtorEq]
  refine long_p T (ls := [keep]) (by show 1 < 1000000000000; omega) ?_
  simp only [PP, pchk, pold, PKNo, ppack, PObj.under, pput, ptset, ptget, pev, ofAV, ofAV1, ppad, pfill, prepl, List.replicate, AO.effect, Nat.reduceAdd, Nat.reduceSub, Nat.reduceMul, Nat.reduceLT, Nat.reduceLeDiff, Nat.reduceEqDiff, Nat.reduceBEq, Int.reduceToNat, Int.reduceLT, Int.reduceLE, Int.reduceEq, Int.reduceAdd, Int.reduceSub, Int.reduceNeg, reduceIte, reduceCtorEq]
  cases hl : longM ow pr su [keep] with
  | true =>
    simp only [PP, pchk, pold, PKNo, ppack, PObj.under, pput, ptset, ptget, pev, ofAV, ofAV1, ppad, pfill, prepl, List.replicate, AO.effect, Nat.reduceAdd, Nat.reduceSub, Nat.reduceMul, Nat.reduceLT, Nat.reduceLeDiff, Nat.reduceEqDiff, Nat.reduceBEq, Int.reduceToNat, Int.reduceLT, Int.reduceLE, Int.reduceEq, Int.reduceAdd, Int.reduceSub, Int.reduceNeg, reduceIte, reduceCtorEq]
    refine SemC_true T.awake ?_
    simp only [PP, pchk, pold, PKNo, ppack, PObj.under, pput, ptset, ptget, pev, ofAV, ofAV1, ppad, pfill, prepl, List.replicate, AO.effect, Nat.reduceAdd, Nat.reduceSub, Nat.reduceMul, Nat.reduceLT, Nat.reduceLeDiff, Nat.reduceEqDiff, Nat.reduceBEq, Int.reduceToNat, Int.reduceLT, Int.reduceLE, Int.reduceEq, Int.reduceAdd, Int.reduceSub, Int.reduceNeg, reduceIte, reduceCtorEq]
    unfold PKLaw
    simp only [PP, pchk, pold, PKNo, ppack, PObj.under, pput, ptset, ptget, pev, ofAV, ofAV1, ppad, pfill, prepl, List.replicate, AO.effect, Nat.reduceAdd, Nat.reduceSub, Nat.reduceMul, Nat.reduceLT, Nat.reduceLeDiff, Nat.reduceEqDiff, Nat.reduceBEq, Int.reduceToNat, Int.reduceLT, Int.reduceLE, Int.reduceEq, Int.reduceAdd, Int.reduceSub, Int.reduceNeg, reduceIte, reduceCtorEq]
  | false =>
    have S := longM_false hl
    have B := S.bnd
    have hkl := S.l keep (by simp)
    have hkb : keep.length < big := by show _ < 1000000000000; omega
    simp only [PP, pchk, pold, PKNo, ppack, PObj.under, pput, ptset, ptget, pev, ofAV, ofAV1, ppad, pfill, prepl, List.replicate, AO.effect, Nat.reduceAdd, Nat.reduceSub, Nat.reduceMul, Nat.reduceLT, Nat.reduceLeDiff, Nat.reduceEqDiff, Nat.reduceBEq, Int.reduceToNat, Int.reduceLT, Int.reduceLE, Int.reduceEq, Int.reduceAdd, Int.reduceSub, Int.reduceNeg, reduceIte, reduceCtorEq]
    refine Top_seq (Top_run ?_)
    simp only [PP, pchk, pold, PKNo, ppack, PObj.under, pput, ptset, ptget, pev, ofAV, ofAV1, ppad, pfill, prepl, List.replicate, AO.effect, Nat.reduceAdd, Nat.reduceSub, Nat.reduceMul, Nat.reduceLT, Nat.reduceLeDiff, Nat.reduceEqDiff, Nat.reduceBEq, Int.reduceToNat, Int.reduceLT, Int.reduceLE, Int.reduceEq, Int.reduceAdd, Int.reduceSub, Int.reduceNeg, reduceIte, reduceCtorEq]
    refine copyGame_p T B ?_
    simp only [PP, pchk, pold, PKNo, ppack, PObj.under, pput, ptset, ptget, pev, ofAV, ofAV1, ppad, pfill, prepl, List.replicate, AO.effect, Nat.reduceAdd, Nat.reduceSub, Nat.reduceMul, Nat.reduceLT, Nat.reduceLeDiff, Nat.reduceEqDiff, Nat.reduceBEq, Int.reduceToNat, Int.reduceLT, Int.reduceLE, Int.reduceEq, Int.reduceAdd, Int.reduceSub, Int.reduceNeg, reduceIte, reduceCtorEq]
    refine Top_weak (b := [.junk, slI false false .i64 keep, .ptr 0 0 0, .junk, .junk, .ptr 1 0 0, .junk, .junk, .junk, .junk, .junk, .junk, .junk, .junk, .junk, .junk, .junk, .junk, .junk, .junk, .junk, .junk, .junk, .junk, .junk, .junk, .junk, .junk, .junk, .junk, .junk, .junk, .junk, .junk, .junk, .junk, .junk, .junk, .junk, .junk, .junk, .junk, .junk, .junk, .junk, .junk, .junk, .junk, .junk, .junk, .junk, .junk, .junk, .junk, .junk, .junk, .junk, .junk, .junk, .junk, .junk, .junk, .junk, .junk, .junk, .junk, .junk, .junk, .junk, .junk, .junk, .junk, .junk]) ?_ (by simp only [PWeak_nil, PWeak_junk, PWeak_same, Int.cast_ofNat_Int, List.length_append, List.length_cons, List.length_nil, Nat.zero_add]) rfl
    refine Top_age (b := [.junk, slI false false .i64 keep, .ptr 0 0 0, .junk, .junk, .ptr 1 0 0, .junk, .junk, .junk, .junk, .junk, .junk, .junk, .junk, .junk, .junk, .junk, .junk, .junk, .junk, .junk, .junk, .junk, .junk, .junk, .junk, .junk, .junk, .junk, .junk, .junk, .junk, .junk, .junk, .junk, .junk, .junk, .junk, .junk, .junk, .junk, .junk, .junk, .junk, .junk, .junk, .junk, .junk, .junk, .junk, .junk, .junk, .junk, .junk, .junk, .junk, .junk, .junk, .junk, .junk, .junk, .junk, .junk, .junk, .junk, .junk, .junk, .junk, .junk, .junk, .junk, .junk, .junk]) (N := [.cells 0 0 [slI false false .u8 ow, slI false false .i64 pr, slR false false false false .i64 su], .cells 0 1 [slI false false .u8 ow, slI false false .i64 pr, slR false false false false .i64 su]]) ?_ ?_ ?_
    · simp only [ageL, PV.age, ageL_ints, ageL_slI, ageL_bools, List.map_cons, List.map_nil, PObj.mapC]
    · simp only [ageL, PV.age, ageL_ints, ageL_slI, ageL_bools, List.map_cons, List.map_nil, PObj.mapC]
    obtain ⟨ra, rb, rc, re, rw1, rl1, rl2, rl3, rl4⟩ := restrictM_res ow pr su keep S.r
    obtain ⟨da, db, dc, de, dw1, dl1, dl2, dl3⟩ := dualM_res ow pr su
    have s1 := S.o
    have s2 := S.p
    have s3 := S.s
    have BR : Bnd ra rb rc := ⟨by show _ < 1000000000000; omega, by show _ < 1000000000000; omega, by show _ < 1000000000000; omega, fun r hr => by show _ < 1000000000000; have := rl4 r hr; omega⟩
    have BD : Bnd da db dc := by
      refine ⟨by show _ < 1000000000000; omega, by show _ < 1000000000000; omega, ?_, ?_⟩
      · rcases dl3 with rfl | rfl
        · show 0 < 1000000000000; omega
        · exact B.s
      · rcases dl3 with rfl | rfl
        · intro r hr; cases hr
        · exact B.r
    refine Top_seq (Top_run ?_)
    simp only [PP, pchk, pold, PKNo, ppack, PObj.under, pput, ptset, ptget, pev, ofAV, ofAV1, ppad, pfill, prepl, List.replicate, AO.effect, Nat.reduceAdd, Nat.reduceSub, Nat.reduceMul, Nat.reduceLT, Nat.reduceLeDiff, Nat.reduceEqDiff, Nat.reduceBEq, Int.reduceToNat, Int.reduceLT, Int.reduceLE, Int.reduceEq, Int.reduceAdd, Int.reduceSub, Int.reduceNeg, reduceIte, reduceCtorEq]
    refine SemC_wk (restrict_p T B hkb ⟨_, rw1, ?_⟩)
    simp only [PP, pchk, pold, PKNo, ppack, PObj.under, pput, ptset, ptget, pev, ofAV, ofAV1, ppad, pfill, prepl, List.replicate, AO.effect, Nat.reduceAdd, Nat.reduceSub, Nat.reduceMul, Nat.reduceLT, Nat.reduceLeDiff, Nat.reduceEqDiff, Nat.reduceBEq, Int.reduceToNat, Int.reduceLT, Int.reduceLE, Int.reduceEq, Int.reduceAdd, Int.reduceSub, Int.reduceNeg, reduceIte, reduceCtorEq]
    refine Top_seq (Top_run ?_)
    simp only [PP, pchk, pold, PKNo, ppack, PObj.under, pput, ptset, ptget, pev, ofAV, ofAV1, ppad, pfill, prepl, List.replicate, AO.effect, Nat.reduceAdd, Nat.reduceSub, Nat.reduceMul, Nat.reduceLT, Nat.reduceLeDiff, Nat.reduceEqDiff, Nat.reduceBEq, Int.reduceToNat, Int.reduceLT, Int.reduceLE, Int.reduceEq, Int.reduceAdd, Int.reduceSub, Int.reduceNeg, reduceIte, reduceCtorEq]
    refine SemC_wk (refRestrict_p T B hkb ⟨_, rw1, ?_⟩)
    simp only [PP, pchk, pold, PKNo, ppack, PObj.under, pput, ptset, ptget, pev, ofAV, ofAV1, ppad, pfill, prepl, List.replicate, AO.effect, Nat.reduceAdd, Nat.reduceSub, Nat.reduceMul, Nat.reduceLT, Nat.reduceLeDiff, Nat.reduceEqDiff, Nat.reduceBEq, Int.reduceToNat, Int.reduceLT, Int.reduceLE, Int.reduceEq, Int.reduceAdd, Int.reduceSub, Int.reduceNeg, reduceIte, reduceCtorEq]
    refine Top_seq (Top_run ?_)
    simp only [PP, pchk, pold, PKNo, ppack, PObj.under, pput, ptset, ptget, pev, ofAV, ofAV1, ppad, pfill, prepl, List.replicate, AO.effect, Nat.reduceAdd, Nat.reduceSub, Nat.reduceMul, Nat.reduceLT, Nat.reduceLeDiff, Nat.reduceEqDiff, Nat.reduceBEq, Int.reduceToNat, Int.reduceLT, Int.reduceLE, Int.reduceEq, Int.reduceAdd, Int.reduceSub, Int.reduceNeg, reduceIte, reduceCtorEq]
    refine SemC_wk (dual_p T B ⟨_, dw1, ?_⟩)
    simp only [PP, pchk, pold, PKNo, ppack, PObj.under, pput, ptset, ptget, pev, ofAV, ofAV1, ppad, pfill, prepl, List.replicate, AO.effect, Nat.reduceAdd, Nat.reduceSub, Nat.reduceMul, Nat.reduceLT, Nat.reduceLeDiff, Nat.reduceEqDiff, Nat.reduceBEq, Int.reduceToNat, Int.reduceLT, Int.reduceLE, Int.reduceEq, Int.reduceAdd, Int.reduceSub, Int.reduceNeg, reduceIte, reduceCtorEq]
    refine Top_seq (Top_run ?_)
    simp only [PP, pchk, pold, PKNo, ppack, PObj.under, pput, ptset, ptget, pev, ofAV, ofAV1, ppad, pfill, prepl, List.replicate, AO.effect, Nat.reduceAdd, Nat.reduceSub, Nat.reduceMul, Nat.reduceLT, Nat.reduceLeDiff, Nat.reduceEqDiff, Nat.reduceBEq, Int.reduceToNat, Int.reduceLT, Int.reduceLE, Int.reduceEq, Int.reduceAdd, Int.reduceSub, Int.reduceNeg, reduceIte, reduceCtorEq]
    refine SemC_wk (refDual_p T B ⟨_, dw1, ?_⟩)
    simp only [PP, pchk, pold, PKNo, ppack, PObj.under, pput, ptset, ptget, pev, ofAV, ofAV1, ppad, pfill, prepl, List.replicate, AO.effect, Nat.reduceAdd, Nat.reduceSub, Nat.reduceMul, Nat.reduceLT, Nat.reduceLeDiff, Nat.reduceEqDiff, Nat.reduceBEq, Int.reduceToNat, Int.reduceLT, Int.reduceLE, Int.reduceEq, Int.reduceAdd, Int.reduceSub, Int.reduceNeg, reduceIte, reduceCtorEq]
    refine Top_seq (Top_run ?_)
    simp only [PP, pchk, pold, PKNo, ppack, PObj.under, pput, ptset, ptget, pev, ofAV, ofAV1, ppad, pfill, prepl, List.replicate, AO.effect, Nat.reduceAdd, Nat.reduceSub, Nat.reduceMul, Nat.reduceLT, Nat.reduceLeDiff, Nat.reduceEqDiff, Nat.reduceBEq, Int.reduceToNat, Int.reduceLT, Int.reduceLE, Int.reduceEq, Int.reduceAdd, Int.reduceSub, Int.reduceNeg, reduceIte, reduceCtorEq]
    refine equalGame_p T BR ?_
    simp only [PP, pchk, pold, PKNo, ppack, PObj.under, pput, ptset, ptget, pev, ofAV, ofAV1, ppad, pfill, prepl, List.replicate, AO.effect, Nat.reduceAdd, Nat.reduceSub, Nat.reduceMul, Nat.reduceLT, Nat.reduceLeDiff, Nat.reduceEqDiff, Nat.reduceBEq, Int.reduceToNat, Int.reduceLT, Int.reduceLE, Int.reduceEq, Int.reduceAdd, Int.reduceSub, Int.reduceNeg, reduceIte, reduceCtorEq]
    refine equalGame_p T BD ?_
    simp only [PP, pchk, pold, PKNo, ppack, PObj.under, pput, ptset, ptget, pev, ofAV, ofAV1, ppad, pfill, prepl, List.replicate, AO.effect, Nat.reduceAdd, Nat.reduceSub, Nat.reduceMul, Nat.reduceLT, Nat.reduceLeDiff, Nat.reduceEqDiff, Nat.reduceBEq, Int.reduceToNat, Int.reduceLT, Int.reduceLE, Int.reduceEq, Int.reduceAdd, Int.reduceSub, Int.reduceNeg, reduceIte, reduceCtorEq]
    refine Top_weak (b := [.junk, .junk, .ptr 0 0 0, .junk, .junk, .ptr 1 0 0, .ptr 2 0 0, .junk, .junk, .junk, .ptr 4 0 0, .junk, .junk, .junk, .junk, .junk, .junk, .junk, .junk, .junk, .junk, .junk, .junk, .junk, .junk, .junk, .junk, .junk, .junk, .junk, .junk, .junk, .junk, .junk, .junk, .junk, .junk, .junk, .junk, .junk, .junk, .junk, .junk, .junk, .junk, .junk, .junk, .junk, .junk, .junk, .junk, .junk, .junk, .junk, .junk, .junk, .junk, .junk, .junk, .junk, .junk, .junk, .junk, .junk, .junk, .junk, .junk, .junk, .junk, .junk, .junk, .junk, .junk]) ?_ (by simp only [PWeak_nil, PWeak_junk, PWeak_same, Int.cast_ofNat_Int, List.length_append, List.length_cons, List.length_nil, Nat.zero_add]) rfl
    refine OvrTop_start ?_
    refine OvrTop_over (id := 2) rfl rfl (by simp) rfl (overGame_ok T BR) ?_
    simp only [pput, ptset]
    refine OvrTop_over (id := 4) rfl rfl (by simp) rfl (overGame_ok T BD) ?_
    simp only [pput, ptset]
    refine OvrTop_end rfl rfl ?_
    simp only [swpL, PV.swp, swpL_ints, swpL_slI, swpL_bools, pput, ptset, List.map_cons, List.map_nil, PObj.mapC]
    refine Top_run ?_
    simp only [PP, pchk, pold, PKNo, ppack, PObj.under, pput, ptset, ptget, pev, ofAV, ofAV1, ppad, pfill, prepl, List.replicate, AO.effect, Nat.reduceAdd, Nat.reduceSub, Nat.reduceMul, Nat.reduceLT, Nat.reduceLeDiff, Nat.reduceEqDiff, Nat.reduceBEq, Int.reduceToNat, Int.reduceLT, Int.reduceLE, Int.reduceEq, Int.reduceAdd, Int.reduceSub, Int.reduceNeg, reduceIte, reduceCtorEq]
    refine equalGame_p T B ?_
    simp only [PP, pchk, pold, PKNo, ppack, PObj.under, pput, ptset, ptget, pev, ofAV, ofAV1, ppad, pfill, prepl, List.replicate, AO.effect, Nat.reduceAdd, Nat.reduceSub, Nat.reduceMul, Nat.reduceLT, Nat.reduceLeDiff, Nat.reduceEqDiff, Nat.reduceBEq, Int.reduceToNat, Int.reduceLT, Int.reduceLE, Int.reduceEq, Int.reduceAdd, Int.reduceSub, Int.reduceNeg, reduceIte, reduceCtorEq]
    refine SemC_true T.awake ?_
    simp only [PP, pchk, pold, PKNo, ppack, PObj.under, pput, ptset, ptget, pev, ofAV, ofAV1, ppad, pfill, prepl, List.replicate, AO.effect, Nat.reduceAdd, Nat.reduceSub, Nat.reduceMul, Nat.reduceLT, Nat.reduceLeDiff, Nat.reduceEqDiff, Nat.reduceBEq, Int.reduceToNat, Int.reduceLT, Int.reduceLE, Int.reduceEq, Int.reduceAdd, Int.reduceSub, Int.reduceNeg, reduceIte, reduceCtorEq]
    unfold PKLaw
    simp only [PP, pchk, pold, PKNo, ppack, PObj.under, pput, ptset, ptget, pev, ofAV, ofAV1, ppad, pfill, prepl, List.replicate, AO.effect, Nat.reduceAdd, Nat.reduceSub, Nat.reduceMul, Nat.reduceLT, Nat.reduceLeDiff, Nat.reduceEqDiff, Nat.reduceBEq, Int.reduceToNat, Int.reduceLT, Int.reduceLE, Int.reduceEq, Int.reduceAdd, Int.reduceSub, Int.reduceNeg, reduceIte, reduceCtorEq]
end
end Go.Am.Ar

set_option linter.unusedVariables false
set_option linter.unusedSimpArgs false
namespace Go.Am.Ar

/-- The type of games. -/
abbrev gameTy : Ty := .pair (.slice (.int .u8)) (.pair (.slice (.int .i64)) (.pair (.slice (.slice (.int .i64))) .unit))

/-- What is known of the numbers of a game that a law gets. -/
structure Nums (ow pr : List Int) (su : List (List Int)) : Prop where
  o : ∀ x ∈ ow, 0 ≤ x ∧ x ≤ 255
  p : ∀ x ∈ pr, -9223372036854775808 ≤ x ∧ x ≤ 9223372036854775807
  s : ∀ r ∈ su, ∀ x ∈ r, -9223372036854775808 ≤ x ∧ x ≤ 9223372036854775807
  lo : ow.length ≤ 9223372036854775807
  lp : pr.length ≤ 9223372036854775807
  ls : su.length ≤ 9223372036854775807
  lr : ∀ r ∈ su, r.length ≤ 9223372036854775807

theorem arg_game {v : AV} {h : H} (hs : ShV gameTy v h) : ∃ (ow pr : List Int) (su : List (List Int)), RepV (wH h) (gmP false false false false false false false false ow pr su) v ∧ Nums ow pr su := by
  obtain ⟨avs, hs, rfl⟩ := hs
  obtain ⟨c1, c2, rfl, h1, c3, c4, rfl, h2, c5, c6, rfl, h3, h4⟩ := hs
  have h4 : c6 = [] := h4
  subst h4
  obtain ⟨vo, ow, rfl, p1, q1, r1⟩ := sh_intsP h1
  obtain ⟨vp, pr, rfl, p2, q2, r2⟩ := sh_intsP h2
  obtain ⟨vs, su, rfl, p3, q3, r3⟩ := sh_rowsP h3
  refine ⟨ow, pr, su, ?_, ⟨r1, r2, fun r hr => (r3 r hr).2, q1, q2, q3, fun r hr => (r3 r hr).1⟩⟩
  have := RepL.cons p1 (.cons p2 (.cons p3 (.nil (wH h))))
  exact .agg this.len this.get
theorem arg_ints {k : IntKind} {v : AV} {h : H} (hs : ShV (.slice (.int k)) v h) : ∃ (xs : List Int), RepV (wH h) (slI false false k xs) v ∧ xs.length ≤ 9223372036854775807 ∧ ∀ x ∈ xs, k.min ≤ x ∧ x ≤ k.max := by
  obtain ⟨avs, hs, rfl⟩ := hs
  obtain ⟨v, xs, rfl, p, q, r⟩ := sh_intsP hs
  exact ⟨xs, p, q, r⟩
theorem arg_int {k : IntKind} {v : AV} {h : H} (hs : ShV (.int k) v h) : ∃ (x : Int), v = .int k x ∧ RepV (wH h) (.int k x) v ∧ k.min ≤ x ∧ x ≤ k.max := by
  obtain ⟨avs, hs, rfl⟩ := hs
  obtain ⟨x, rfl, p⟩ := hs
  exact ⟨x, rfl, .int k x, p⟩

theorem run_of_C {tab : FuncId → Option AF} {g : FuncId} {args : List AV} {h : H} (hc : C (lim tab) g args h fun v _ => v = .bool true) : ∃ n h', (run tab n).call g args h = some (.bool true, h') := by
  unfold C at hc
  obtain ⟨v, h', he, rfl⟩ := hc
  obtain ⟨n, hn⟩ := (lim_call_iff tab).1 he
  exact ⟨n, h', hn⟩
theorem shVs2 {A B : Ty} {args : List AV} {h : H} (hs : ShVs [A, B] args h) : ∃ a b, args = [a, b] ∧ ShV A a h ∧ ShV B b h := by
  match args, hs with
  | [a, b], ⟨h1, h2, _⟩ => exact ⟨a, b, rfl, h1, h2⟩
theorem shVs3 {A B D : Ty} {args : List AV} {h : H} (hs : ShVs [A, B, D] args h) : ∃ a b d, args = [a, b, d] ∧ ShV A a h ∧ ShV B b h ∧ ShV D d h := by
  match args, hs with
  | [a, b, d], ⟨h1, h2, h3, _⟩ => exact ⟨a, b, d, rfl, h1, h2, h3⟩
theorem shVs4 {A B D E : Ty} {args : List AV} {h : H} (hs : ShVs [A, B, D, E] args h) : ∃ a b d e, args = [a, b, d, e] ∧ ShV A a h ∧ ShV B b h ∧ ShV D d h ∧ ShV E e h := by
  match args, hs with
  | [a, b, d, e], ⟨h1, h2, h3, h4, _⟩ => exact ⟨a, b, d, e, rfl, h1, h2, h3, h4⟩
theorem shVs5 {A B D E F : Ty} {args : List AV} {h : H} (hs : ShVs [A, B, D, E, F] args h) : ∃ a b d e f, args = [a, b, d, e, f] ∧ ShV A a h ∧ ShV B b h ∧ ShV D d h ∧ ShV E e h ∧ ShV F f h := by
  match args, hs with
  | [a, b, d, e, f], ⟨h1, h2, h3, h4, h5, _⟩ => exact ⟨a, b, d, e, f, rfl, h1, h2, h3, h4, h5⟩
end Go.Am.Ar
