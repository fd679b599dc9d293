/- Contracts of the functions that check a game and tell the winner of a play: those of the program and those of the reference answer alike. -/
import Derived.Test.YtjkmbpaobkhlnaaMzArLeaf
set_option linter.unusedVariables false
set_option linter.unusedSimpArgs false
namespace Go.Am.Ar

theorem _root_.Go.Am.SlV.pidxI {v : AV} {vs : List AV} {h : H} (hs : SlV v vs h) {i : Int} (h0 : 0 ≤ i) (hi : i.toNat < vs.length) (kd : IntKind) (k : AV → Prop) : PIdx 1 v (.int kd i) k = k (.ptr v.blk (v.off + i.toNat)) := by
  have := hs.pidx hi kd k
  rwa [show ((i.toNat : Nat) : Int) = i by omega] at this
theorem _root_.Go.Am.SlV.one {v : AV} {vs : List AV} {h : H} (hs : SlV v vs h) : v.one = true := by
  rcases hs with ⟨rfl, _⟩ | ⟨_, _, _, _, _, _, rfl, _⟩ <;> rfl
theorem box_cell (h : H) (cs : List AV) (i : Nat) : getCell (h.alloc (.cells 0 true cs)) h.next i = cs[i]? := by
  unfold getCell; rw [H.get_alloc_new]
theorem box_cells (h : H) (cs : List AV) (n : Nat) (hn : n = cs.length) : getCells (h.alloc (.cells 0 true cs)) h.next 0 n = some cs := by
  unfold getCells; rw [H.get_alloc_new]; simp [hn]
theorem ext_cell {h h' : H} (e : Ext h h') {b : Nat} (hb : b < h.next) (i : Nat) : getCell h' b i = getCell h b i := by
  unfold getCell; rw [e.get b hb]
theorem ext_cells {h h' : H} (e : Ext h h') {b : Nat} (hb : b < h.next) (i n : Nat) : getCells h' b i n = getCells h b i n := by
  unfold getCells; rw [e.get b hb]

/-- A game. -/
structure Gm (vo vp vs : AV) (rs : List AV) (ow pr : List Int) (su : List (List Int)) (h : H) : Prop where
  o : SlV vo (ow.map u8) h
  p : SlV vp (pr.map i64) h
  s : SlV vs rs h
  len : rs.length = su.length
  row : ∀ i (h1 : i < rs.length) (h2 : i < su.length), SlV rs[i] (su[i].map i64) h
  bo : ow.length < big
  bp : pr.length < big
  bs : su.length < big
  br : ∀ i (h2 : i < su.length), su[i].length < big

theorem Gm.ext {vo vp vs : AV} {rs : List AV} {ow pr : List Int} {su : List (List Int)} {h h' : H} (G : Gm vo vp vs rs ow pr su h) (e : Ext h h') : Gm vo vp vs rs ow pr su h' :=
  ⟨G.o.ext e, G.p.ext e, G.s.ext e, G.len, fun i h1 h2 => (G.row i h1 h2).ext e, G.bo, G.bp, G.bs, G.br⟩

def checkLoop (ow pr : List Int) : Nat → List (List Int) → Int
  | _, [] => 0
  | k, row :: rest => if 1 < ow.getD k 0 then 6 else if pr.getD k 0 < 0 ∨ 16 < pr.getD k 0 then 1 else if row.length = 0 then 13 else if posM ow.length (-1) row = false then 8 else checkLoop ow pr (k + 1) rest

/-- The first error of a game, or 0. -/
def checkM (ow pr : List Int) (su : List (List Int)) : Int :=
  if ow.length = 0 then 3 else if 4096 < ow.length then 10 else if pr.length ≠ ow.length ∨ su.length ≠ ow.length then 2 else checkLoop ow pr 0 su

section
variable {tab : FuncId → Option AF} (T : Has tab)
include T

theorem rises_spec {h : H} {l : AV} {xs : List Int} {n : Int} (hl : SlV l (xs.map i64) h) (hm : xs.length < big) {Q : AV → H → Prop} (hq : Q (.bool (posM n (-1) xs)) h) :
    C (lim tab) 127 [l, i64 n] h Q := by
  rw [C_fn T.h127]
  simp only [af127, W_skip, W_ret, W_exit, W_region, W_seq, W_block, W_cond, PCondW_true, PCondW_false, PCondW_dec, PGuardW_tt, PGuardW_ff, PGuardW_tf, PGuardW_ft, PGuardW_tuple, PGuardW_dec_t, PGuardW_dec_f, pickV_true, pickV_false, pickV_dec, KSeq_eq, KBlock_eq, WL_eq, WO_nil, WO_none, WO_some, KPut_eq, KRes_eq, KFalse, WS_call, WS_move, WS_pick, WS_alloc, WS_box, WS_build, WS_buildSlice, WS_load, WS_loadAgg, WS_store, WS_nilCheck, WS_bin, WS_eqB, WS_isNil, WS_eqCells, WS_un, WS_convInt, WS_mkFunc, WS_makeMap, WS_makeSlice, WS_slice, WS_fieldAddr, WS_field, WS_fieldN, WS_indexAddr, WS_indexAddrA, WS_index, WS_extract, WS_len, WS_append, WS_max, PPtr_ptr, PInt_int, PBool_bool, PSome_some, PAgg_agg, PTuple_tuple, PSlice_slice, PSlice_nil, PLen_nil, PLen_slice, PCall_func, put, tset, tget, ev, bnd, fill_one, fill1_int, scrub, padTo, aresAll, ares, packRes, abin_add, abin_sub, abin_mul, abin_eql, abin_neq, abin_lss, abin_leq, abin_gtr, abin_geq, aun_not, maxV_two, List.length_cons, List.length_nil, List.replicate, List.cons_append, List.nil_append, List.append_nil, List.map_cons, List.map_nil, Nat.reduceAdd, Nat.reduceSub, ite_true, ite_false, if_true, if_false, Bool.false_eq_true, reduceIte, decide_true, decide_false, Bool.not_true, Bool.not_false, beq_self_eq_true, List.length_map, ne_eq, not_true_eq_false, not_false_eq_true]
  rw [W_scrub]
  simp only [scrub, tset]
  refine (?_ : ∀ (m k : Nat) (last : Int), k + m = xs.length → ((k = 0 ∧ last = -1) ∨ (0 < k ∧ 0 ≤ last ∧ xs[k - 1]? = some last)) → Q (.bool (posM n last (xs.drop k))) h → W (lim tab) (.loop ?sc ?x) [l, i64 n, .junk, .junk, .junk, i64 k, .junk, .junk, .junk, .junk, .junk, .junk, .junk, .junk, .junk, .junk, .junk, .junk, .junk, .junk, .junk, .junk, .junk, .junk, .junk, .junk, .junk, .junk, .junk, .junk, .junk, .junk, .junk, .junk, .junk, .junk, .junk, .junk, .junk, .junk, .junk] h ?q1 ?q2 ?q3) xs.length 0 (-1) (by simp) (.inl ⟨rfl, rfl⟩) hq
  intro m
  induction m with
  | zero =>
    intro k last hk hi hq
    rw [W_round]
    have hd : xs.drop k = [] := List.drop_eq_nil_of_le (by omega)
    rw [hd] at hq
    have hlt : ¬ (k : Int) < xs.length := by omega
    simp only [W_skip, W_ret, W_exit, W_region, W_seq, W_block, W_cond, PCondW_true, PCondW_false, PCondW_dec, PGuardW_tt, PGuardW_ff, PGuardW_tf, PGuardW_ft, PGuardW_tuple, PGuardW_dec_t, PGuardW_dec_f, pickV_true, pickV_false, pickV_dec, KSeq_eq, KBlock_eq, WL_eq, WO_nil, WO_none, WO_some, KPut_eq, KRes_eq, KFalse, WS_call, WS_move, WS_pick, WS_alloc, WS_box, WS_build, WS_buildSlice, WS_load, WS_loadAgg, WS_store, WS_nilCheck, WS_bin, WS_eqB, WS_isNil, WS_eqCells, WS_un, WS_convInt, WS_mkFunc, WS_makeMap, WS_makeSlice, WS_slice, WS_fieldAddr, WS_field, WS_fieldN, WS_indexAddr, WS_indexAddrA, WS_index, WS_extract, WS_len, WS_append, WS_max, PPtr_ptr, PInt_int, PBool_bool, PSome_some, PAgg_agg, PTuple_tuple, PSlice_slice, PSlice_nil, PLen_nil, PLen_slice, PCall_func, put, tset, tget, ev, bnd, fill_one, fill1_int, scrub, padTo, aresAll, ares, packRes, abin_add, abin_sub, abin_mul, abin_eql, abin_neq, abin_lss, abin_leq, abin_gtr, abin_geq, aun_not, maxV_two, List.length_cons, List.length_nil, List.replicate, List.cons_append, List.nil_append, List.append_nil, List.map_cons, List.map_nil, Nat.reduceAdd, Nat.reduceSub, ite_true, ite_false, if_true, if_false, Bool.false_eq_true, reduceIte, decide_true, decide_false, Bool.not_true, Bool.not_false, beq_self_eq_true, List.length_map, ne_eq, not_true_eq_false, not_false_eq_true, hl.plen, hlt]
    exact hq
  | succ m ih =>
    intro k last hk hi hq
    rw [W_round]
    have hk' : k < xs.length := by omega
    rw [drop_get hk'] at hq
    have hlt : (k : Int) < xs.length := by omega
    have hkm : k < (xs.map i64).length := by simpa using hk'
    have hw := wrap_succ (k := k) (by omega)
    unfold posM at hq
    by_cases h1 : xs[k] < 0
    · have h1' : xs[k] ≤ last := by rcases hi with ⟨_, h⟩ | ⟨_, h, _⟩ <;> omega
      simp only [h1', true_or, if_true] at hq
      simp only [W_skip, W_ret, W_exit, W_region, W_seq, W_block, W_cond, PCondW_true, PCondW_false, PCondW_dec, PGuardW_tt, PGuardW_ff, PGuardW_tf, PGuardW_ft, PGuardW_tuple, PGuardW_dec_t, PGuardW_dec_f, pickV_true, pickV_false, pickV_dec, KSeq_eq, KBlock_eq, WL_eq, WO_nil, WO_none, WO_some, KPut_eq, KRes_eq, KFalse, WS_call, WS_move, WS_pick, WS_alloc, WS_box, WS_build, WS_buildSlice, WS_load, WS_loadAgg, WS_store, WS_nilCheck, WS_bin, WS_eqB, WS_isNil, WS_eqCells, WS_un, WS_convInt, WS_mkFunc, WS_makeMap, WS_makeSlice, WS_slice, WS_fieldAddr, WS_field, WS_fieldN, WS_indexAddr, WS_indexAddrA, WS_index, WS_extract, WS_len, WS_append, WS_max, PPtr_ptr, PInt_int, PBool_bool, PSome_some, PAgg_agg, PTuple_tuple, PSlice_slice, PSlice_nil, PLen_nil, PLen_slice, PCall_func, put, tset, tget, ev, bnd, fill_one, fill1_int, scrub, padTo, aresAll, ares, packRes, abin_add, abin_sub, abin_mul, abin_eql, abin_neq, abin_lss, abin_leq, abin_gtr, abin_geq, aun_not, maxV_two, List.length_cons, List.length_nil, List.replicate, List.cons_append, List.nil_append, List.append_nil, List.map_cons, List.map_nil, Nat.reduceAdd, Nat.reduceSub, ite_true, ite_false, if_true, if_false, Bool.false_eq_true, reduceIte, decide_true, decide_false, Bool.not_true, Bool.not_false, beq_self_eq_true, List.length_map, ne_eq, not_true_eq_false, not_false_eq_true, hl.plen, hlt, hl.pidx hkm, hl.cell hkm, List.getElem_map, h1]
      exact hq
    · by_cases h2 : n ≤ xs[k]
      · simp only [h2, or_true, if_true] at hq
        simp only [W_skip, W_ret, W_exit, W_region, W_seq, W_block, W_cond, PCondW_true, PCondW_false, PCondW_dec, PGuardW_tt, PGuardW_ff, PGuardW_tf, PGuardW_ft, PGuardW_tuple, PGuardW_dec_t, PGuardW_dec_f, pickV_true, pickV_false, pickV_dec, KSeq_eq, KBlock_eq, WL_eq, WO_nil, WO_none, WO_some, KPut_eq, KRes_eq, KFalse, WS_call, WS_move, WS_pick, WS_alloc, WS_box, WS_build, WS_buildSlice, WS_load, WS_loadAgg, WS_store, WS_nilCheck, WS_bin, WS_eqB, WS_isNil, WS_eqCells, WS_un, WS_convInt, WS_mkFunc, WS_makeMap, WS_makeSlice, WS_slice, WS_fieldAddr, WS_field, WS_fieldN, WS_indexAddr, WS_indexAddrA, WS_index, WS_extract, WS_len, WS_append, WS_max, PPtr_ptr, PInt_int, PBool_bool, PSome_some, PAgg_agg, PTuple_tuple, PSlice_slice, PSlice_nil, PLen_nil, PLen_slice, PCall_func, put, tset, tget, ev, bnd, fill_one, fill1_int, scrub, padTo, aresAll, ares, packRes, abin_add, abin_sub, abin_mul, abin_eql, abin_neq, abin_lss, abin_leq, abin_gtr, abin_geq, aun_not, maxV_two, List.length_cons, List.length_nil, List.replicate, List.cons_append, List.nil_append, List.append_nil, List.map_cons, List.map_nil, Nat.reduceAdd, Nat.reduceSub, ite_true, ite_false, if_true, if_false, Bool.false_eq_true, reduceIte, decide_true, decide_false, Bool.not_true, Bool.not_false, beq_self_eq_true, List.length_map, ne_eq, not_true_eq_false, not_false_eq_true, hl.plen, hlt, hl.pidx hkm, hl.cell hkm, List.getElem_map, h1, h2]
        exact hq
      · rcases hi with ⟨rfl, rfl⟩ | ⟨hk0, hl0, hlast⟩
        · have h3 : ¬ xs[0] ≤ -1 := by omega
          simp only [h3, h2, or_self, if_false] at hq
          have h4 : ¬ (0 : Int) < ((0 : Nat) : Int) := by omega
          simp only [W_skip, W_ret, W_exit, W_region, W_seq, W_block, W_cond, PCondW_true, PCondW_false, PCondW_dec, PGuardW_tt, PGuardW_ff, PGuardW_tf, PGuardW_ft, PGuardW_tuple, PGuardW_dec_t, PGuardW_dec_f, pickV_true, pickV_false, pickV_dec, KSeq_eq, KBlock_eq, WL_eq, WO_nil, WO_none, WO_some, KPut_eq, KRes_eq, KFalse, WS_call, WS_move, WS_pick, WS_alloc, WS_box, WS_build, WS_buildSlice, WS_load, WS_loadAgg, WS_store, WS_nilCheck, WS_bin, WS_eqB, WS_isNil, WS_eqCells, WS_un, WS_convInt, WS_mkFunc, WS_makeMap, WS_makeSlice, WS_slice, WS_fieldAddr, WS_field, WS_fieldN, WS_indexAddr, WS_indexAddrA, WS_index, WS_extract, WS_len, WS_append, WS_max, PPtr_ptr, PInt_int, PBool_bool, PSome_some, PAgg_agg, PTuple_tuple, PSlice_slice, PSlice_nil, PLen_nil, PLen_slice, PCall_func, put, tset, tget, ev, bnd, fill_one, fill1_int, scrub, padTo, aresAll, ares, packRes, abin_add, abin_sub, abin_mul, abin_eql, abin_neq, abin_lss, abin_leq, abin_gtr, abin_geq, aun_not, maxV_two, List.length_cons, List.length_nil, List.replicate, List.cons_append, List.nil_append, List.append_nil, List.map_cons, List.map_nil, Nat.reduceAdd, Nat.reduceSub, ite_true, ite_false, if_true, if_false, Bool.false_eq_true, reduceIte, decide_true, decide_false, Bool.not_true, Bool.not_false, beq_self_eq_true, List.length_map, ne_eq, not_true_eq_false, not_false_eq_true, hl.plen, hlt, hl.pidx hkm, hl.cell hkm, List.getElem_map, h1, h2, h4, hw]
          rw [W_scrub]
          simp only [scrub, tset]
          exact ih 1 xs[0] (by omega) (.inr ⟨by omega, by omega, by simp⟩) hq
        · have h4 : (0 : Int) < (k : Int) := by omega
          have hk1 : k - 1 < (xs.map i64).length := by simp; omega
          have hw2 : IntKind.i64.wrap ((k : Int) - 1) = ((k - 1 : Nat) : Int) := by
            have : k < 1000000000000 := by have : xs.length < 1000000000000 := hm; omega
            rw [wrap64 (by omega) (by omega)]; omega
          have hlast' : xs[k - 1]'(by omega) = last := by
            rw [List.getElem?_eq_getElem (by omega)] at hlast
            exact Option.some.inj hlast
          by_cases h3 : xs[k] ≤ last
          · simp only [h3, true_or, if_true] at hq
            simp only [W_skip, W_ret, W_exit, W_region, W_seq, W_block, W_cond, PCondW_true, PCondW_false, PCondW_dec, PGuardW_tt, PGuardW_ff, PGuardW_tf, PGuardW_ft, PGuardW_tuple, PGuardW_dec_t, PGuardW_dec_f, pickV_true, pickV_false, pickV_dec, KSeq_eq, KBlock_eq, WL_eq, WO_nil, WO_none, WO_some, KPut_eq, KRes_eq, KFalse, WS_call, WS_move, WS_pick, WS_alloc, WS_box, WS_build, WS_buildSlice, WS_load, WS_loadAgg, WS_store, WS_nilCheck, WS_bin, WS_eqB, WS_isNil, WS_eqCells, WS_un, WS_convInt, WS_mkFunc, WS_makeMap, WS_makeSlice, WS_slice, WS_fieldAddr, WS_field, WS_fieldN, WS_indexAddr, WS_indexAddrA, WS_index, WS_extract, WS_len, WS_append, WS_max, PPtr_ptr, PInt_int, PBool_bool, PSome_some, PAgg_agg, PTuple_tuple, PSlice_slice, PSlice_nil, PLen_nil, PLen_slice, PCall_func, put, tset, tget, ev, bnd, fill_one, fill1_int, scrub, padTo, aresAll, ares, packRes, abin_add, abin_sub, abin_mul, abin_eql, abin_neq, abin_lss, abin_leq, abin_gtr, abin_geq, aun_not, maxV_two, List.length_cons, List.length_nil, List.replicate, List.cons_append, List.nil_append, List.append_nil, List.map_cons, List.map_nil, Nat.reduceAdd, Nat.reduceSub, ite_true, ite_false, if_true, if_false, Bool.false_eq_true, reduceIte, decide_true, decide_false, Bool.not_true, Bool.not_false, beq_self_eq_true, List.length_map, ne_eq, not_true_eq_false, not_false_eq_true, hl.plen, hlt, hl.pidx hkm, hl.cell hkm, hl.pidx hk1, hl.cell hk1, List.getElem_map, h1, h2, h3, h4, hw, hw2, hlast']
            exact hq
          · simp only [h3, h2, or_self, if_false] at hq
            simp only [W_skip, W_ret, W_exit, W_region, W_seq, W_block, W_cond, PCondW_true, PCondW_false, PCondW_dec, PGuardW_tt, PGuardW_ff, PGuardW_tf, PGuardW_ft, PGuardW_tuple, PGuardW_dec_t, PGuardW_dec_f, pickV_true, pickV_false, pickV_dec, KSeq_eq, KBlock_eq, WL_eq, WO_nil, WO_none, WO_some, KPut_eq, KRes_eq, KFalse, WS_call, WS_move, WS_pick, WS_alloc, WS_box, WS_build, WS_buildSlice, WS_load, WS_loadAgg, WS_store, WS_nilCheck, WS_bin, WS_eqB, WS_isNil, WS_eqCells, WS_un, WS_convInt, WS_mkFunc, WS_makeMap, WS_makeSlice, WS_slice, WS_fieldAddr, WS_field, WS_fieldN, WS_indexAddr, WS_indexAddrA, WS_index, WS_extract, WS_len, WS_append, WS_max, PPtr_ptr, PInt_int, PBool_bool, PSome_some, PAgg_agg, PTuple_tuple, PSlice_slice, PSlice_nil, PLen_nil, PLen_slice, PCall_func, put, tset, tget, ev, bnd, fill_one, fill1_int, scrub, padTo, aresAll, ares, packRes, abin_add, abin_sub, abin_mul, abin_eql, abin_neq, abin_lss, abin_leq, abin_gtr, abin_geq, aun_not, maxV_two, List.length_cons, List.length_nil, List.replicate, List.cons_append, List.nil_append, List.append_nil, List.map_cons, List.map_nil, Nat.reduceAdd, Nat.reduceSub, ite_true, ite_false, if_true, if_false, Bool.false_eq_true, reduceIte, decide_true, decide_false, Bool.not_true, Bool.not_false, beq_self_eq_true, List.length_map, ne_eq, not_true_eq_false, not_false_eq_true, hl.plen, hlt, hl.pidx hkm, hl.cell hkm, hl.pidx hk1, hl.cell hk1, List.getElem_map, h1, h2, h3, h4, hw, hw2, hlast']
            rw [W_scrub]
            simp only [scrub, tset]
            exact ih (k + 1) xs[k] (by omega) (.inr ⟨by omega, by omega, by simp [hk']⟩) hq

theorem check_spec {h : H} {vo vp vs : AV} {rs : List AV} {ow pr : List Int} {su : List (List Int)} (G0 : Gm vo vp vs rs ow pr su h) {Q : AV → H → Prop} (hq0 : ∀ h', Ext h h' → Q (i64 (checkM ow pr su)) h') :
    C (lim tab) 71 [.agg [vo, vp, vs]] h Q := by
  rw [C_fn T.h71]
  have e1 := Ext.alloc h (.cells 0 true [vo, vp, vs])
  have b0 : getCell (h.alloc (.cells 0 true [vo, vp, vs])) h.next 0 = some vo := box_cell h _ 0
  have b1 : getCell (h.alloc (.cells 0 true [vo, vp, vs])) h.next 1 = some vp := box_cell h _ 1
  have b2 : getCell (h.alloc (.cells 0 true [vo, vp, vs])) h.next 2 = some vs := box_cell h _ 2
  have hone : [vo, vp, vs].all AV.one = true := by simp [G0.o.one, G0.p.one, G0.s.one]
  have G := G0.ext e1
  have hq := hq0 _ e1
  generalize hh1 : h.alloc (.cells 0 true [vo, vp, vs]) = h1 at *
  unfold checkM at hq
  by_cases c1 : ow.length = 0
  · rw [if_pos c1] at hq
    have c1' : (ow.length : Int) = 0 := by omega
    simp only [af71, W_skip, W_ret, W_exit, W_region, W_seq, W_block, W_cond, PCondW_true, PCondW_false, PCondW_dec, PGuardW_tt, PGuardW_ff, PGuardW_tf, PGuardW_ft, PGuardW_tuple, PGuardW_dec_t, PGuardW_dec_f, pickV_true, pickV_false, pickV_dec, KSeq_eq, KBlock_eq, WL_eq, WO_nil, WO_none, WO_some, KPut_eq, KRes_eq, KFalse, WS_call, WS_move, WS_pick, WS_alloc, WS_box, WS_build, WS_buildSlice, WS_load, WS_loadAgg, WS_store, WS_nilCheck, WS_bin, WS_eqB, WS_isNil, WS_eqCells, WS_un, WS_convInt, WS_mkFunc, WS_makeMap, WS_makeSlice, WS_slice, WS_fieldAddr, WS_field, WS_fieldN, WS_indexAddr, WS_indexAddrA, WS_index, WS_extract, WS_len, WS_append, WS_max, PPtr_ptr, PInt_int, PBool_bool, PSome_some, PAgg_agg, PTuple_tuple, PSlice_slice, PSlice_nil, PLen_nil, PLen_slice, PCall_func, put, tset, tget, ev, bnd, fill_one, fill1_int, scrub, padTo, aresAll, ares, packRes, abin_add, abin_sub, abin_mul, abin_eql, abin_neq, abin_lss, abin_leq, abin_gtr, abin_geq, aun_not, maxV_two, List.length_cons, List.length_nil, List.replicate, List.cons_append, List.nil_append, List.append_nil, List.map_cons, List.map_nil, Nat.reduceAdd, Nat.reduceSub, ite_true, ite_false, if_true, if_false, Bool.false_eq_true, reduceIte, decide_true, decide_false, Bool.not_true, Bool.not_false, beq_self_eq_true, List.length_map, ne_eq, not_true_eq_false, not_false_eq_true, AV.cells, hone, hh1, b0, G.o.plen, c1', true_and]
    exact hq
  · rw [if_neg c1] at hq
    have c1' : ¬ (ow.length : Int) = 0 := by omega
    by_cases c2 : 4096 < ow.length
    · rw [if_pos c2] at hq
      have c2' : (4096 : Int) < ow.length := by omega
      simp only [af71, W_skip, W_ret, W_exit, W_region, W_seq, W_block, W_cond, PCondW_true, PCondW_false, PCondW_dec, PGuardW_tt, PGuardW_ff, PGuardW_tf, PGuardW_ft, PGuardW_tuple, PGuardW_dec_t, PGuardW_dec_f, pickV_true, pickV_false, pickV_dec, KSeq_eq, KBlock_eq, WL_eq, WO_nil, WO_none, WO_some, KPut_eq, KRes_eq, KFalse, WS_call, WS_move, WS_pick, WS_alloc, WS_box, WS_build, WS_buildSlice, WS_load, WS_loadAgg, WS_store, WS_nilCheck, WS_bin, WS_eqB, WS_isNil, WS_eqCells, WS_un, WS_convInt, WS_mkFunc, WS_makeMap, WS_makeSlice, WS_slice, WS_fieldAddr, WS_field, WS_fieldN, WS_indexAddr, WS_indexAddrA, WS_index, WS_extract, WS_len, WS_append, WS_max, PPtr_ptr, PInt_int, PBool_bool, PSome_some, PAgg_agg, PTuple_tuple, PSlice_slice, PSlice_nil, PLen_nil, PLen_slice, PCall_func, put, tset, tget, ev, bnd, fill_one, fill1_int, scrub, padTo, aresAll, ares, packRes, abin_add, abin_sub, abin_mul, abin_eql, abin_neq, abin_lss, abin_leq, abin_gtr, abin_geq, aun_not, maxV_two, List.length_cons, List.length_nil, List.replicate, List.cons_append, List.nil_append, List.append_nil, List.map_cons, List.map_nil, Nat.reduceAdd, Nat.reduceSub, ite_true, ite_false, if_true, if_false, Bool.false_eq_true, reduceIte, decide_true, decide_false, Bool.not_true, Bool.not_false, beq_self_eq_true, List.length_map, ne_eq, not_true_eq_false, not_false_eq_true, AV.cells, hone, hh1, b0, G.o.plen, c1', c2', true_and]
      exact hq
    · rw [if_neg c2] at hq
      have c2' : ¬ (4096 : Int) < ow.length := by omega
      by_cases c3 : pr.length = ow.length
      · by_cases c4 : su.length = ow.length
        · have hc : ¬ (pr.length ≠ ow.length ∨ su.length ≠ ow.length) := by omega
          rw [if_neg hc] at hq
          have c3' : (pr.length : Int) = ow.length := by omega
          have c4' : (rs.length : Int) = ow.length := by rw [G.len]; omega
          simp only [af71, W_skip, W_ret, W_exit, W_region, W_seq, W_block, W_cond, PCondW_true, PCondW_false, PCondW_dec, PGuardW_tt, PGuardW_ff, PGuardW_tf, PGuardW_ft, PGuardW_tuple, PGuardW_dec_t, PGuardW_dec_f, pickV_true, pickV_false, pickV_dec, KSeq_eq, KBlock_eq, WL_eq, WO_nil, WO_none, WO_some, KPut_eq, KRes_eq, KFalse, WS_call, WS_move, WS_pick, WS_alloc, WS_box, WS_build, WS_buildSlice, WS_load, WS_loadAgg, WS_store, WS_nilCheck, WS_bin, WS_eqB, WS_isNil, WS_eqCells, WS_un, WS_convInt, WS_mkFunc, WS_makeMap, WS_makeSlice, WS_slice, WS_fieldAddr, WS_field, WS_fieldN, WS_indexAddr, WS_indexAddrA, WS_index, WS_extract, WS_len, WS_append, WS_max, PPtr_ptr, PInt_int, PBool_bool, PSome_some, PAgg_agg, PTuple_tuple, PSlice_slice, PSlice_nil, PLen_nil, PLen_slice, PCall_func, put, tset, tget, ev, bnd, fill_one, fill1_int, scrub, padTo, aresAll, ares, packRes, abin_add, abin_sub, abin_mul, abin_eql, abin_neq, abin_lss, abin_leq, abin_gtr, abin_geq, aun_not, maxV_two, List.length_cons, List.length_nil, List.replicate, List.cons_append, List.nil_append, List.append_nil, List.map_cons, List.map_nil, Nat.reduceAdd, Nat.reduceSub, ite_true, ite_false, if_true, if_false, Bool.false_eq_true, reduceIte, decide_true, decide_false, Bool.not_true, Bool.not_false, beq_self_eq_true, List.length_map, ne_eq, not_true_eq_false, not_false_eq_true, AV.cells, hone, hh1, b0, b1, b2, G.o.plen, G.p.plen, G.s.plen, c1', c2', c3', c4', true_and]
          rw [W_scrub]
          simp only [scrub, tset]
          refine (?_ : ∀ (m k : Nat), k + m = su.length → Q (i64 (checkLoop ow pr k (su.drop k))) h1 → W (lim tab) (.loop ?sc ?x) [.junk, .ptr h.next 0, .junk, i64 ow.length, .junk, .junk, .junk, .junk, .junk, .junk, .junk, .junk, .junk, .junk, .junk, .junk, .junk, .junk, .junk, .junk, .junk, .junk, .junk, .junk, .junk, .junk, .junk, .junk, .junk, vs, i64 ow.length, i64 k, .junk, .junk, .junk, .junk, .junk, .junk, .junk, .junk, .junk, .junk, .junk, .junk, .junk, .junk, .junk, .junk, .junk, .junk, .junk, .junk, .junk, .junk, .junk, .junk, .junk, .junk, .junk, .junk, .junk, .junk, .junk, .junk, .junk, .junk, .junk, .junk] h1 ?q1 ?q2 ?q3) su.length 0 (by simp) hq
          intro m
          induction m with
          | zero =>
            intro k hk hq
            rw [W_round]
            have hd : su.drop k = [] := List.drop_eq_nil_of_le (by omega)
            rw [hd] at hq
            have hlt : ¬ (k : Int) < ow.length := by omega
            simp only [W_skip, W_ret, W_exit, W_region, W_seq, W_block, W_cond, PCondW_true, PCondW_false, PCondW_dec, PGuardW_tt, PGuardW_ff, PGuardW_tf, PGuardW_ft, PGuardW_tuple, PGuardW_dec_t, PGuardW_dec_f, pickV_true, pickV_false, pickV_dec, KSeq_eq, KBlock_eq, WL_eq, WO_nil, WO_none, WO_some, KPut_eq, KRes_eq, KFalse, WS_call, WS_move, WS_pick, WS_alloc, WS_box, WS_build, WS_buildSlice, WS_load, WS_loadAgg, WS_store, WS_nilCheck, WS_bin, WS_eqB, WS_isNil, WS_eqCells, WS_un, WS_convInt, WS_mkFunc, WS_makeMap, WS_makeSlice, WS_slice, WS_fieldAddr, WS_field, WS_fieldN, WS_indexAddr, WS_indexAddrA, WS_index, WS_extract, WS_len, WS_append, WS_max, PPtr_ptr, PInt_int, PBool_bool, PSome_some, PAgg_agg, PTuple_tuple, PSlice_slice, PSlice_nil, PLen_nil, PLen_slice, PCall_func, put, tset, tget, ev, bnd, fill_one, fill1_int, scrub, padTo, aresAll, ares, packRes, abin_add, abin_sub, abin_mul, abin_eql, abin_neq, abin_lss, abin_leq, abin_gtr, abin_geq, aun_not, maxV_two, List.length_cons, List.length_nil, List.replicate, List.cons_append, List.nil_append, List.append_nil, List.map_cons, List.map_nil, Nat.reduceAdd, Nat.reduceSub, ite_true, ite_false, if_true, if_false, Bool.false_eq_true, reduceIte, decide_true, decide_false, Bool.not_true, Bool.not_false, beq_self_eq_true, List.length_map, ne_eq, not_true_eq_false, not_false_eq_true, hlt]
            exact hq
          | succ m ih =>
            intro k hk hq
            rw [W_round]
            have hk' : k < su.length := by omega
            rw [drop_get hk'] at hq
            have hlt : (k : Int) < ow.length := by omega
            have hr : k < rs.length := by rw [G.len]; exact hk'
            have ho : k < ow.length := by omega
            have hp : k < pr.length := by omega
            have hom : k < (ow.map u8).length := by simpa using ho
            have hpm : k < (pr.map i64).length := by simpa using hp
            have hw := wrap_succ (k := k) (by have := G.bs; omega)
            have hrow := G.row k hr hk'
            have hbr := G.br k hk'
            unfold checkLoop at hq
            rw [show ow.getD k 0 = ow[k] by simp [ho], show pr.getD k 0 = pr[k] by simp [hp]] at hq
            by_cases d1 : 1 < ow[k]
            · rw [if_pos d1] at hq
              simp only [W_skip, W_ret, W_exit, W_region, W_seq, W_block, W_cond, PCondW_true, PCondW_false, PCondW_dec, PGuardW_tt, PGuardW_ff, PGuardW_tf, PGuardW_ft, PGuardW_tuple, PGuardW_dec_t, PGuardW_dec_f, pickV_true, pickV_false, pickV_dec, KSeq_eq, KBlock_eq, WL_eq, WO_nil, WO_none, WO_some, KPut_eq, KRes_eq, KFalse, WS_call, WS_move, WS_pick, WS_alloc, WS_box, WS_build, WS_buildSlice, WS_load, WS_loadAgg, WS_store, WS_nilCheck, WS_bin, WS_eqB, WS_isNil, WS_eqCells, WS_un, WS_convInt, WS_mkFunc, WS_makeMap, WS_makeSlice, WS_slice, WS_fieldAddr, WS_field, WS_fieldN, WS_indexAddr, WS_indexAddrA, WS_index, WS_extract, WS_len, WS_append, WS_max, PPtr_ptr, PInt_int, PBool_bool, PSome_some, PAgg_agg, PTuple_tuple, PSlice_slice, PSlice_nil, PLen_nil, PLen_slice, PCall_func, put, tset, tget, ev, bnd, fill_one, fill1_int, scrub, padTo, aresAll, ares, packRes, abin_add, abin_sub, abin_mul, abin_eql, abin_neq, abin_lss, abin_leq, abin_gtr, abin_geq, aun_not, maxV_two, List.length_cons, List.length_nil, List.replicate, List.cons_append, List.nil_append, List.append_nil, List.map_cons, List.map_nil, Nat.reduceAdd, Nat.reduceSub, ite_true, ite_false, if_true, if_false, Bool.false_eq_true, reduceIte, decide_true, decide_false, Bool.not_true, Bool.not_false, beq_self_eq_true, List.length_map, ne_eq, not_true_eq_false, not_false_eq_true, hlt, G.s.pidx hr, G.s.cell hr, b0, b1, G.o.pidx hom, G.o.cell hom, List.getElem_map, d1]
              exact hq
            · rw [if_neg d1] at hq
              by_cases d2 : pr[k] < 0
              · rw [if_pos (.inl d2)] at hq
                simp only [W_skip, W_ret, W_exit, W_region, W_seq, W_block, W_cond, PCondW_true, PCondW_false, PCondW_dec, PGuardW_tt, PGuardW_ff, PGuardW_tf, PGuardW_ft, PGuardW_tuple, PGuardW_dec_t, PGuardW_dec_f, pickV_true, pickV_false, pickV_dec, KSeq_eq, KBlock_eq, WL_eq, WO_nil, WO_none, WO_some, KPut_eq, KRes_eq, KFalse, WS_call, WS_move, WS_pick, WS_alloc, WS_box, WS_build, WS_buildSlice, WS_load, WS_loadAgg, WS_store, WS_nilCheck, WS_bin, WS_eqB, WS_isNil, WS_eqCells, WS_un, WS_convInt, WS_mkFunc, WS_makeMap, WS_makeSlice, WS_slice, WS_fieldAddr, WS_field, WS_fieldN, WS_indexAddr, WS_indexAddrA, WS_index, WS_extract, WS_len, WS_append, WS_max, PPtr_ptr, PInt_int, PBool_bool, PSome_some, PAgg_agg, PTuple_tuple, PSlice_slice, PSlice_nil, PLen_nil, PLen_slice, PCall_func, put, tset, tget, ev, bnd, fill_one, fill1_int, scrub, padTo, aresAll, ares, packRes, abin_add, abin_sub, abin_mul, abin_eql, abin_neq, abin_lss, abin_leq, abin_gtr, abin_geq, aun_not, maxV_two, List.length_cons, List.length_nil, List.replicate, List.cons_append, List.nil_append, List.append_nil, List.map_cons, List.map_nil, Nat.reduceAdd, Nat.reduceSub, ite_true, ite_false, if_true, if_false, Bool.false_eq_true, reduceIte, decide_true, decide_false, Bool.not_true, Bool.not_false, beq_self_eq_true, List.length_map, ne_eq, not_true_eq_false, not_false_eq_true, hlt, G.s.pidx hr, G.s.cell hr, b0, b1, G.o.pidx hom, G.o.cell hom, G.p.pidx hpm, G.p.cell hpm, List.getElem_map, d1, d2]
                exact hq
              · by_cases d3 : 16 < pr[k]
                · rw [if_pos (.inr d3)] at hq
                  simp only [W_skip, W_ret, W_exit, W_region, W_seq, W_block, W_cond, PCondW_true, PCondW_false, PCondW_dec, PGuardW_tt, PGuardW_ff, PGuardW_tf, PGuardW_ft, PGuardW_tuple, PGuardW_dec_t, PGuardW_dec_f, pickV_true, pickV_false, pickV_dec, KSeq_eq, KBlock_eq, WL_eq, WO_nil, WO_none, WO_some, KPut_eq, KRes_eq, KFalse, WS_call, WS_move, WS_pick, WS_alloc, WS_box, WS_build, WS_buildSlice, WS_load, WS_loadAgg, WS_store, WS_nilCheck, WS_bin, WS_eqB, WS_isNil, WS_eqCells, WS_un, WS_convInt, WS_mkFunc, WS_makeMap, WS_makeSlice, WS_slice, WS_fieldAddr, WS_field, WS_fieldN, WS_indexAddr, WS_indexAddrA, WS_index, WS_extract, WS_len, WS_append, WS_max, PPtr_ptr, PInt_int, PBool_bool, PSome_some, PAgg_agg, PTuple_tuple, PSlice_slice, PSlice_nil, PLen_nil, PLen_slice, PCall_func, put, tset, tget, ev, bnd, fill_one, fill1_int, scrub, padTo, aresAll, ares, packRes, abin_add, abin_sub, abin_mul, abin_eql, abin_neq, abin_lss, abin_leq, abin_gtr, abin_geq, aun_not, maxV_two, List.length_cons, List.length_nil, List.replicate, List.cons_append, List.nil_append, List.append_nil, List.map_cons, List.map_nil, Nat.reduceAdd, Nat.reduceSub, ite_true, ite_false, if_true, if_false, Bool.false_eq_true, reduceIte, decide_true, decide_false, Bool.not_true, Bool.not_false, beq_self_eq_true, List.length_map, ne_eq, not_true_eq_false, not_false_eq_true, hlt, G.s.pidx hr, G.s.cell hr, b0, b1, G.o.pidx hom, G.o.cell hom, G.p.pidx hpm, G.p.cell hpm, List.getElem_map, d1, d2, d3]
                  exact hq
                · rw [if_neg (by omega)] at hq
                  by_cases d4 : su[k].length = 0
                  · rw [if_pos d4] at hq
                    have d4' : (su[k].length : Int) = 0 := by omega
                    simp only [W_skip, W_ret, W_exit, W_region, W_seq, W_block, W_cond, PCondW_true, PCondW_false, PCondW_dec, PGuardW_tt, PGuardW_ff, PGuardW_tf, PGuardW_ft, PGuardW_tuple, PGuardW_dec_t, PGuardW_dec_f, pickV_true, pickV_false, pickV_dec, KSeq_eq, KBlock_eq, WL_eq, WO_nil, WO_none, WO_some, KPut_eq, KRes_eq, KFalse, WS_call, WS_move, WS_pick, WS_alloc, WS_box, WS_build, WS_buildSlice, WS_load, WS_loadAgg, WS_store, WS_nilCheck, WS_bin, WS_eqB, WS_isNil, WS_eqCells, WS_un, WS_convInt, WS_mkFunc, WS_makeMap, WS_makeSlice, WS_slice, WS_fieldAddr, WS_field, WS_fieldN, WS_indexAddr, WS_indexAddrA, WS_index, WS_extract, WS_len, WS_append, WS_max, PPtr_ptr, PInt_int, PBool_bool, PSome_some, PAgg_agg, PTuple_tuple, PSlice_slice, PSlice_nil, PLen_nil, PLen_slice, PCall_func, put, tset, tget, ev, bnd, fill_one, fill1_int, scrub, padTo, aresAll, ares, packRes, abin_add, abin_sub, abin_mul, abin_eql, abin_neq, abin_lss, abin_leq, abin_gtr, abin_geq, aun_not, maxV_two, List.length_cons, List.length_nil, List.replicate, List.cons_append, List.nil_append, List.append_nil, List.map_cons, List.map_nil, Nat.reduceAdd, Nat.reduceSub, ite_true, ite_false, if_true, if_false, Bool.false_eq_true, reduceIte, decide_true, decide_false, Bool.not_true, Bool.not_false, beq_self_eq_true, List.length_map, ne_eq, not_true_eq_false, not_false_eq_true, hlt, G.s.pidx hr, G.s.cell hr, b0, b1, G.o.pidx hom, G.o.cell hom, G.p.pidx hpm, G.p.cell hpm, List.getElem_map, d1, d2, d3, hrow.plen, d4']
                    exact hq
                  · rw [if_neg d4] at hq
                    have d4' : ¬ (su[k].length : Int) = 0 := by omega
                    simp only [W_skip, W_ret, W_exit, W_region, W_seq, W_block, W_cond, PCondW_true, PCondW_false, PCondW_dec, PGuardW_tt, PGuardW_ff, PGuardW_tf, PGuardW_ft, PGuardW_tuple, PGuardW_dec_t, PGuardW_dec_f, pickV_true, pickV_false, pickV_dec, KSeq_eq, KBlock_eq, WL_eq, WO_nil, WO_none, WO_some, KPut_eq, KRes_eq, KFalse, WS_call, WS_move, WS_pick, WS_alloc, WS_box, WS_build, WS_buildSlice, WS_load, WS_loadAgg, WS_store, WS_nilCheck, WS_bin, WS_eqB, WS_isNil, WS_eqCells, WS_un, WS_convInt, WS_mkFunc, WS_makeMap, WS_makeSlice, WS_slice, WS_fieldAddr, WS_field, WS_fieldN, WS_indexAddr, WS_indexAddrA, WS_index, WS_extract, WS_len, WS_append, WS_max, PPtr_ptr, PInt_int, PBool_bool, PSome_some, PAgg_agg, PTuple_tuple, PSlice_slice, PSlice_nil, PLen_nil, PLen_slice, PCall_func, put, tset, tget, ev, bnd, fill_one, fill1_int, scrub, padTo, aresAll, ares, packRes, abin_add, abin_sub, abin_mul, abin_eql, abin_neq, abin_lss, abin_leq, abin_gtr, abin_geq, aun_not, maxV_two, List.length_cons, List.length_nil, List.replicate, List.cons_append, List.nil_append, List.append_nil, List.map_cons, List.map_nil, Nat.reduceAdd, Nat.reduceSub, ite_true, ite_false, if_true, if_false, Bool.false_eq_true, reduceIte, decide_true, decide_false, Bool.not_true, Bool.not_false, beq_self_eq_true, List.length_map, ne_eq, not_true_eq_false, not_false_eq_true, hlt, G.s.pidx hr, G.s.cell hr, b0, b1, G.o.pidx hom, G.o.cell hom, G.p.pidx hpm, G.p.cell hpm, List.getElem_map, d1, d2, d3, hrow.plen, d4']
                    refine positions_spec T hrow hbr ?_
                    by_cases d5 : posM ow.length (-1) su[k] = false
                    · rw [if_pos d5] at hq
                      simp only [W_skip, W_ret, W_exit, W_region, W_seq, W_block, W_cond, PCondW_true, PCondW_false, PCondW_dec, PGuardW_tt, PGuardW_ff, PGuardW_tf, PGuardW_ft, PGuardW_tuple, PGuardW_dec_t, PGuardW_dec_f, pickV_true, pickV_false, pickV_dec, KSeq_eq, KBlock_eq, WL_eq, WO_nil, WO_none, WO_some, KPut_eq, KRes_eq, KFalse, WS_call, WS_move, WS_pick, WS_alloc, WS_box, WS_build, WS_buildSlice, WS_load, WS_loadAgg, WS_store, WS_nilCheck, WS_bin, WS_eqB, WS_isNil, WS_eqCells, WS_un, WS_convInt, WS_mkFunc, WS_makeMap, WS_makeSlice, WS_slice, WS_fieldAddr, WS_field, WS_fieldN, WS_indexAddr, WS_indexAddrA, WS_index, WS_extract, WS_len, WS_append, WS_max, PPtr_ptr, PInt_int, PBool_bool, PSome_some, PAgg_agg, PTuple_tuple, PSlice_slice, PSlice_nil, PLen_nil, PLen_slice, PCall_func, put, tset, tget, ev, bnd, fill_one, fill1_int, scrub, padTo, aresAll, ares, packRes, abin_add, abin_sub, abin_mul, abin_eql, abin_neq, abin_lss, abin_leq, abin_gtr, abin_geq, aun_not, maxV_two, List.length_cons, List.length_nil, List.replicate, List.cons_append, List.nil_append, List.append_nil, List.map_cons, List.map_nil, Nat.reduceAdd, Nat.reduceSub, ite_true, ite_false, if_true, if_false, Bool.false_eq_true, reduceIte, decide_true, decide_false, Bool.not_true, Bool.not_false, beq_self_eq_true, List.length_map, ne_eq, not_true_eq_false, not_false_eq_true, d5]
                      exact hq
                    · rw [if_neg d5] at hq
                      have d5' : posM ow.length (-1) su[k] = true := by simpa using d5
                      simp only [W_skip, W_ret, W_exit, W_region, W_seq, W_block, W_cond, PCondW_true, PCondW_false, PCondW_dec, PGuardW_tt, PGuardW_ff, PGuardW_tf, PGuardW_ft, PGuardW_tuple, PGuardW_dec_t, PGuardW_dec_f, pickV_true, pickV_false, pickV_dec, KSeq_eq, KBlock_eq, WL_eq, WO_nil, WO_none, WO_some, KPut_eq, KRes_eq, KFalse, WS_call, WS_move, WS_pick, WS_alloc, WS_box, WS_build, WS_buildSlice, WS_load, WS_loadAgg, WS_store, WS_nilCheck, WS_bin, WS_eqB, WS_isNil, WS_eqCells, WS_un, WS_convInt, WS_mkFunc, WS_makeMap, WS_makeSlice, WS_slice, WS_fieldAddr, WS_field, WS_fieldN, WS_indexAddr, WS_indexAddrA, WS_index, WS_extract, WS_len, WS_append, WS_max, PPtr_ptr, PInt_int, PBool_bool, PSome_some, PAgg_agg, PTuple_tuple, PSlice_slice, PSlice_nil, PLen_nil, PLen_slice, PCall_func, put, tset, tget, ev, bnd, fill_one, fill1_int, scrub, padTo, aresAll, ares, packRes, abin_add, abin_sub, abin_mul, abin_eql, abin_neq, abin_lss, abin_leq, abin_gtr, abin_geq, aun_not, maxV_two, List.length_cons, List.length_nil, List.replicate, List.cons_append, List.nil_append, List.append_nil, List.map_cons, List.map_nil, Nat.reduceAdd, Nat.reduceSub, ite_true, ite_false, if_true, if_false, Bool.false_eq_true, reduceIte, decide_true, decide_false, Bool.not_true, Bool.not_false, beq_self_eq_true, List.length_map, ne_eq, not_true_eq_false, not_false_eq_true, d5', hw]
                      rw [W_scrub]
                      simp only [scrub, tset]
                      exact ih (k + 1) (by omega) hq
        · have hc : pr.length ≠ ow.length ∨ su.length ≠ ow.length := .inr c4
          rw [if_pos hc] at hq
          have c3' : (pr.length : Int) = ow.length := by omega
          have c4' : ¬ (rs.length : Int) = ow.length := by rw [G.len]; omega
          simp only [af71, W_skip, W_ret, W_exit, W_region, W_seq, W_block, W_cond, PCondW_true, PCondW_false, PCondW_dec, PGuardW_tt, PGuardW_ff, PGuardW_tf, PGuardW_ft, PGuardW_tuple, PGuardW_dec_t, PGuardW_dec_f, pickV_true, pickV_false, pickV_dec, KSeq_eq, KBlock_eq, WL_eq, WO_nil, WO_none, WO_some, KPut_eq, KRes_eq, KFalse, WS_call, WS_move, WS_pick, WS_alloc, WS_box, WS_build, WS_buildSlice, WS_load, WS_loadAgg, WS_store, WS_nilCheck, WS_bin, WS_eqB, WS_isNil, WS_eqCells, WS_un, WS_convInt, WS_mkFunc, WS_makeMap, WS_makeSlice, WS_slice, WS_fieldAddr, WS_field, WS_fieldN, WS_indexAddr, WS_indexAddrA, WS_index, WS_extract, WS_len, WS_append, WS_max, PPtr_ptr, PInt_int, PBool_bool, PSome_some, PAgg_agg, PTuple_tuple, PSlice_slice, PSlice_nil, PLen_nil, PLen_slice, PCall_func, put, tset, tget, ev, bnd, fill_one, fill1_int, scrub, padTo, aresAll, ares, packRes, abin_add, abin_sub, abin_mul, abin_eql, abin_neq, abin_lss, abin_leq, abin_gtr, abin_geq, aun_not, maxV_two, List.length_cons, List.length_nil, List.replicate, List.cons_append, List.nil_append, List.append_nil, List.map_cons, List.map_nil, Nat.reduceAdd, Nat.reduceSub, ite_true, ite_false, if_true, if_false, Bool.false_eq_true, reduceIte, decide_true, decide_false, Bool.not_true, Bool.not_false, beq_self_eq_true, List.length_map, ne_eq, not_true_eq_false, not_false_eq_true, AV.cells, hone, hh1, b0, b1, b2, G.o.plen, G.p.plen, G.s.plen, c1', c2', c3', c4', true_and]
          exact hq
      · have hc : pr.length ≠ ow.length ∨ su.length ≠ ow.length := .inl c3
        rw [if_pos hc] at hq
        have c3' : ¬ (pr.length : Int) = ow.length := by omega
        simp only [af71, W_skip, W_ret, W_exit, W_region, W_seq, W_block, W_cond, PCondW_true, PCondW_false, PCondW_dec, PGuardW_tt, PGuardW_ff, PGuardW_tf, PGuardW_ft, PGuardW_tuple, PGuardW_dec_t, PGuardW_dec_f, pickV_true, pickV_false, pickV_dec, KSeq_eq, KBlock_eq, WL_eq, WO_nil, WO_none, WO_some, KPut_eq, KRes_eq, KFalse, WS_call, WS_move, WS_pick, WS_alloc, WS_box, WS_build, WS_buildSlice, WS_load, WS_loadAgg, WS_store, WS_nilCheck, WS_bin, WS_eqB, WS_isNil, WS_eqCells, WS_un, WS_convInt, WS_mkFunc, WS_makeMap, WS_makeSlice, WS_slice, WS_fieldAddr, WS_field, WS_fieldN, WS_indexAddr, WS_indexAddrA, WS_index, WS_extract, WS_len, WS_append, WS_max, PPtr_ptr, PInt_int, PBool_bool, PSome_some, PAgg_agg, PTuple_tuple, PSlice_slice, PSlice_nil, PLen_nil, PLen_slice, PCall_func, put, tset, tget, ev, bnd, fill_one, fill1_int, scrub, padTo, aresAll, ares, packRes, abin_add, abin_sub, abin_mul, abin_eql, abin_neq, abin_lss, abin_leq, abin_gtr, abin_geq, aun_not, maxV_two, List.length_cons, List.length_nil, List.replicate, List.cons_append, List.nil_append, List.append_nil, List.map_cons, List.map_nil, Nat.reduceAdd, Nat.reduceSub, ite_true, ite_false, if_true, if_false, Bool.false_eq_true, reduceIte, decide_true, decide_false, Bool.not_true, Bool.not_false, beq_self_eq_true, List.length_map, ne_eq, not_true_eq_false, not_false_eq_true, AV.cells, hone, hh1, b0, b1, b2, G.o.plen, G.p.plen, G.s.plen, c1', c2', c3', true_and]
        exact hq
end
end Go.Am.Ar
