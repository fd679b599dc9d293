/- The contract of the law's bound on sizes, and the law that compares plays. -/
import Derived.Test.YtjkmbpaobkhlnaaMzArPlay2
set_option linter.unusedVariables false
set_option linter.unusedSimpArgs false
namespace Go.Am.Ar

def rlen : AV → Nat
  | .slice _ _ _ _ n => n
  | _ => 0
def IsSl (v : AV) : Prop := ∀ k : AV → Prop, PLen v k = k (i64 (rlen v))
theorem _root_.Go.Am.SlV.isSl {v : AV} {vs : List AV} {h : H} (hs : SlV v vs h) : IsSl v ∧ rlen v = vs.length := by
  rcases hs with ⟨rfl, rfl⟩ | ⟨_, _, _, _, _, _, rfl, _⟩
  · exact ⟨fun k => PLen_nil k, rfl⟩
  · exact ⟨fun k => PLen_slice _ _ _ _ _ k, rfl⟩

def anyLong : List AV → Bool
  | [] => false
  | r :: l => if 40 < rlen r then true else anyLong l
theorem anyLong_cons (r : AV) (l : List AV) : anyLong (r :: l) = if 40 < rlen r then true else anyLong l := rfl
theorem anyLong_false : ∀ {l : List AV}, anyLong l = false → ∀ r ∈ l, rlen r ≤ 40
  | [], h, r, hr => by cases hr
  | x :: l, h, r, hr => by
    rw [anyLong_cons] at h
    split at h
    · cases h
    · rename_i hx
      rcases List.mem_cons.1 hr with rfl | hr
      · omega
      · exact anyLong_false h r hr

def longM (no np : Nat) (rs ls : List AV) : Bool := if 30 < no ∨ 40 < np ∨ 40 < rs.length then true else if anyLong rs = true then true else anyLong ls

/-- Two cells of a literal slice. -/
def fill2 (v w : AV) : Option (List AV) := if v.cells.length = 1 && v.cells.all AV.one then (if w.cells.length = 1 && w.cells.all AV.one then some (v.cells ++ w.cells) else none) else none
theorem fill_two (a : List AV) (c : AV) (x y : AR) : fillA a (repl 2 [c]) [(0, 1, x), (1, 1, y)] = fill2 (ev a x) (ev a y) := by
  simp only [fillA, repl, List.append_nil, List.length_cons, List.length_nil, List.cons_append, List.nil_append, over, fill2]
  by_cases h1 : (ev a x).cells.length = 1
  · obtain ⟨u, hu⟩ := List.length_eq_one_iff.1 h1
    by_cases h2 : (ev a y).cells.length = 1
    · obtain ⟨t, ht⟩ := List.length_eq_one_iff.1 h2
      simp [hu, ht, over]
    · simp [hu, h2, over]
  · simp [h1]
theorem fill2_sl {v w : AV} {xs ys : List AV} {h : H} (hv : SlV v xs h) (hw : SlV w ys h) : fill2 v w = some [v, w] := by
  rcases hv with ⟨rfl, _⟩ | ⟨_, _, _, _, _, _, rfl, _⟩ <;> rcases hw with ⟨rfl, _⟩ | ⟨_, _, _, _, _, _, rfl, _⟩ <;> rfl

theorem C_true {tab : FuncId → Option AF} {g : FuncId} (hg : tab g = some (.prim primTrue)) (h : H) (Q : AV → H → Prop) : C (lim tab) g [] h Q = Q (.bool true) h := by
  apply propext
  unfold C
  rw [lim_call]
  simp only [acallF, hg, primTrue]
  constructor
  · rintro ⟨v, h', he, hk⟩; cases he; exact hk
  · intro hk; exact ⟨_, _, rfl, hk⟩

section
variable {tab : FuncId → Option AF} (T : Has tab)
include T

theorem long_spec {h : H} {vo vp vs lv : AV} {vos vps rs ls : List AV} (hO0 : SlV vo vos h) (hP0 : SlV vp vps h) (hS0 : SlV vs rs h) (hrs : ∀ r ∈ rs, IsSl r) (hL0 : SlV lv ls h) (hls : ∀ r ∈ ls, IsSl r) (hlb : ls.length < big) {Q : AV → H → Prop}
    (hq0 : ∀ h', Ext h h' → Q (.bool (longM vos.length vps.length rs ls)) h') : C (lim tab) 40 [.agg [vo, vp, vs], lv] h Q := by
  rw [C_fn T.h40]
  have e1 := Ext.alloc h (.cells 0 true [vo, vp, vs])
  have b0 : getCell (h.alloc (.cells 0 true [vo, vp, vs])) h.next 0 = some vo := box_cell h _ 0
  have b1 : getCell (h.alloc (.cells 0 true [vo, vp, vs])) h.next 1 = some vp := box_cell h _ 1
  have b2 : getCell (h.alloc (.cells 0 true [vo, vp, vs])) h.next 2 = some vs := box_cell h _ 2
  have hone : [vo, vp, vs].all AV.one = true := by simp [hO0.one, hP0.one, hS0.one]
  have hO := hO0.ext e1
  have hP := hP0.ext e1
  have hS := hS0.ext e1
  have hL := hL0.ext e1
  have hq := hq0 _ e1
  generalize hh1 : h.alloc (.cells 0 true [vo, vp, vs]) = h1 at *
  unfold longM at hq
  by_cases c1 : 30 < vos.length
  · rw [if_pos (.inl c1)] at hq
    have c1' : (30 : Int) < vos.length := by omega
    simp only [af40, W_skip, W_ret, W_exit, W_region, W_seq, W_block, W_cond, PCondW_true, PCondW_false, PCondW_dec, PGuardW_tt, PGuardW_ff, PGuardW_tf, PGuardW_ft, PGuardW_tuple, PGuardW_dec_t, PGuardW_dec_f, pickV_true, pickV_false, pickV_dec, KSeq_eq, KBlock_eq, WL_eq, WO_nil, WO_none, WO_some, KPut_eq, KRes_eq, KFalse, WS_call, WS_move, WS_pick, WS_alloc, WS_box, WS_build, WS_buildSlice, WS_load, WS_loadAgg, WS_store, WS_nilCheck, WS_bin, WS_eqB, WS_isNil, WS_eqCells, WS_un, WS_convInt, WS_mkFunc, WS_makeMap, WS_makeSlice, WS_slice, WS_fieldAddr, WS_field, WS_fieldN, WS_indexAddr, WS_indexAddrA, WS_index, WS_extract, WS_len, WS_append, WS_max, PPtr_ptr, PInt_int, PBool_bool, PSome_some, PAgg_agg, PTuple_tuple, PSlice_slice, PSlice_nil, PLen_nil, PLen_slice, PCall_func, put, tset, tget, ev, bnd, fill_one, fill1_int, scrub, padTo, aresAll, ares, packRes, abin_add, abin_sub, abin_mul, abin_eql, abin_neq, abin_lss, abin_leq, abin_gtr, abin_geq, aun_not, maxV_two, List.length_cons, List.length_nil, List.replicate, List.cons_append, List.nil_append, List.append_nil, List.map_cons, List.map_nil, Nat.reduceAdd, Nat.reduceSub, ite_true, ite_false, if_true, if_false, Bool.false_eq_true, reduceIte, decide_true, decide_false, Bool.not_true, Bool.not_false, beq_self_eq_true, List.length_map, ne_eq, not_true_eq_false, not_false_eq_true, AV.cells, hone, hh1, b0, hO.plen, c1', true_and]
    exact hq
  · have c1' : ¬ (30 : Int) < vos.length := by omega
    by_cases c2 : 40 < vps.length
    · rw [if_pos (.inr (.inl c2))] at hq
      have c2' : (40 : Int) < vps.length := by omega
      simp only [af40, W_skip, W_ret, W_exit, W_region, W_seq, W_block, W_cond, PCondW_true, PCondW_false, PCondW_dec, PGuardW_tt, PGuardW_ff, PGuardW_tf, PGuardW_ft, PGuardW_tuple, PGuardW_dec_t, PGuardW_dec_f, pickV_true, pickV_false, pickV_dec, KSeq_eq, KBlock_eq, WL_eq, WO_nil, WO_none, WO_some, KPut_eq, KRes_eq, KFalse, WS_call, WS_move, WS_pick, WS_alloc, WS_box, WS_build, WS_buildSlice, WS_load, WS_loadAgg, WS_store, WS_nilCheck, WS_bin, WS_eqB, WS_isNil, WS_eqCells, WS_un, WS_convInt, WS_mkFunc, WS_makeMap, WS_makeSlice, WS_slice, WS_fieldAddr, WS_field, WS_fieldN, WS_indexAddr, WS_indexAddrA, WS_index, WS_extract, WS_len, WS_append, WS_max, PPtr_ptr, PInt_int, PBool_bool, PSome_some, PAgg_agg, PTuple_tuple, PSlice_slice, PSlice_nil, PLen_nil, PLen_slice, PCall_func, put, tset, tget, ev, bnd, fill_one, fill1_int, scrub, padTo, aresAll, ares, packRes, abin_add, abin_sub, abin_mul, abin_eql, abin_neq, abin_lss, abin_leq, abin_gtr, abin_geq, aun_not, maxV_two, List.length_cons, List.length_nil, List.replicate, List.cons_append, List.nil_append, List.append_nil, List.map_cons, List.map_nil, Nat.reduceAdd, Nat.reduceSub, ite_true, ite_false, if_true, if_false, Bool.false_eq_true, reduceIte, decide_true, decide_false, Bool.not_true, Bool.not_false, beq_self_eq_true, List.length_map, ne_eq, not_true_eq_false, not_false_eq_true, AV.cells, hone, hh1, b0, b1, hO.plen, hP.plen, c1', c2', true_and]
      exact hq
    · have c2' : ¬ (40 : Int) < vps.length := by omega
      by_cases c3 : 40 < rs.length
      · rw [if_pos (.inr (.inr c3))] at hq
        have c3' : (40 : Int) < rs.length := by omega
        simp only [af40, W_skip, W_ret, W_exit, W_region, W_seq, W_block, W_cond, PCondW_true, PCondW_false, PCondW_dec, PGuardW_tt, PGuardW_ff, PGuardW_tf, PGuardW_ft, PGuardW_tuple, PGuardW_dec_t, PGuardW_dec_f, pickV_true, pickV_false, pickV_dec, KSeq_eq, KBlock_eq, WL_eq, WO_nil, WO_none, WO_some, KPut_eq, KRes_eq, KFalse, WS_call, WS_move, WS_pick, WS_alloc, WS_box, WS_build, WS_buildSlice, WS_load, WS_loadAgg, WS_store, WS_nilCheck, WS_bin, WS_eqB, WS_isNil, WS_eqCells, WS_un, WS_convInt, WS_mkFunc, WS_makeMap, WS_makeSlice, WS_slice, WS_fieldAddr, WS_field, WS_fieldN, WS_indexAddr, WS_indexAddrA, WS_index, WS_extract, WS_len, WS_append, WS_max, PPtr_ptr, PInt_int, PBool_bool, PSome_some, PAgg_agg, PTuple_tuple, PSlice_slice, PSlice_nil, PLen_nil, PLen_slice, PCall_func, put, tset, tget, ev, bnd, fill_one, fill1_int, scrub, padTo, aresAll, ares, packRes, abin_add, abin_sub, abin_mul, abin_eql, abin_neq, abin_lss, abin_leq, abin_gtr, abin_geq, aun_not, maxV_two, List.length_cons, List.length_nil, List.replicate, List.cons_append, List.nil_append, List.append_nil, List.map_cons, List.map_nil, Nat.reduceAdd, Nat.reduceSub, ite_true, ite_false, if_true, if_false, Bool.false_eq_true, reduceIte, decide_true, decide_false, Bool.not_true, Bool.not_false, beq_self_eq_true, List.length_map, ne_eq, not_true_eq_false, not_false_eq_true, AV.cells, hone, hh1, b0, b1, b2, hO.plen, hP.plen, hS.plen, c1', c2', c3', true_and]
        exact hq
      · have c3' : ¬ (40 : Int) < rs.length := by omega
        rw [if_neg (by omega)] at hq
        simp only [af40, W_skip, W_ret, W_exit, W_region, W_seq, W_block, W_cond, PCondW_true, PCondW_false, PCondW_dec, PGuardW_tt, PGuardW_ff, PGuardW_tf, PGuardW_ft, PGuardW_tuple, PGuardW_dec_t, PGuardW_dec_f, pickV_true, pickV_false, pickV_dec, KSeq_eq, KBlock_eq, WL_eq, WO_nil, WO_none, WO_some, KPut_eq, KRes_eq, KFalse, WS_call, WS_move, WS_pick, WS_alloc, WS_box, WS_build, WS_buildSlice, WS_load, WS_loadAgg, WS_store, WS_nilCheck, WS_bin, WS_eqB, WS_isNil, WS_eqCells, WS_un, WS_convInt, WS_mkFunc, WS_makeMap, WS_makeSlice, WS_slice, WS_fieldAddr, WS_field, WS_fieldN, WS_indexAddr, WS_indexAddrA, WS_index, WS_extract, WS_len, WS_append, WS_max, PPtr_ptr, PInt_int, PBool_bool, PSome_some, PAgg_agg, PTuple_tuple, PSlice_slice, PSlice_nil, PLen_nil, PLen_slice, PCall_func, put, tset, tget, ev, bnd, fill_one, fill1_int, scrub, padTo, aresAll, ares, packRes, abin_add, abin_sub, abin_mul, abin_eql, abin_neq, abin_lss, abin_leq, abin_gtr, abin_geq, aun_not, maxV_two, List.length_cons, List.length_nil, List.replicate, List.cons_append, List.nil_append, List.append_nil, List.map_cons, List.map_nil, Nat.reduceAdd, Nat.reduceSub, ite_true, ite_false, if_true, if_false, Bool.false_eq_true, reduceIte, decide_true, decide_false, Bool.not_true, Bool.not_false, beq_self_eq_true, List.length_map, ne_eq, not_true_eq_false, not_false_eq_true, AV.cells, hone, hh1, b0, b1, b2, hO.plen, hP.plen, hS.plen, c1', c2', c3', true_and]
        rw [W_scrub]
        simp only [scrub, tset]
        refine (?_ : ∀ (m k : Nat), k + m = rs.length → Q (.bool (if anyLong (rs.drop k) = true then true else anyLong ls)) h1 → W (lim tab) (.loop ?sc ?x) [.junk, lv, .ptr h.next 0, .junk, .junk, i64 k, .junk, .junk, .junk, .junk, .junk, .junk, .junk, .junk, .junk, .junk, .junk, .junk, .junk, .junk, .junk, .junk, .junk, .junk, .junk, .junk, .junk, .junk, .junk, .junk, .junk, .junk, .junk, .junk, .junk, .junk, .junk, .junk, .junk, .junk, .junk, .junk, .junk, .junk, .junk, .junk, .junk, .junk, .junk] h1 ?q1 ?q2 ?q3) rs.length 0 (by simp) hq
        intro m
        induction m with
        | zero =>
          intro k hk hq
          rw [W_round]
          have hd : rs.drop k = [] := List.drop_eq_nil_of_le (by omega)
          rw [hd] at hq
          have hlt : ¬ (k : Int) < rs.length := by omega
          simp only [anyLong, Bool.false_eq_true, if_false] at hq
          simp only [W_skip, W_ret, W_exit, W_region, W_seq, W_block, W_cond, PCondW_true, PCondW_false, PCondW_dec, PGuardW_tt, PGuardW_ff, PGuardW_tf, PGuardW_ft, PGuardW_tuple, PGuardW_dec_t, PGuardW_dec_f, pickV_true, pickV_false, pickV_dec, KSeq_eq, KBlock_eq, WL_eq, WO_nil, WO_none, WO_some, KPut_eq, KRes_eq, KFalse, WS_call, WS_move, WS_pick, WS_alloc, WS_box, WS_build, WS_buildSlice, WS_load, WS_loadAgg, WS_store, WS_nilCheck, WS_bin, WS_eqB, WS_isNil, WS_eqCells, WS_un, WS_convInt, WS_mkFunc, WS_makeMap, WS_makeSlice, WS_slice, WS_fieldAddr, WS_field, WS_fieldN, WS_indexAddr, WS_indexAddrA, WS_index, WS_extract, WS_len, WS_append, WS_max, PPtr_ptr, PInt_int, PBool_bool, PSome_some, PAgg_agg, PTuple_tuple, PSlice_slice, PSlice_nil, PLen_nil, PLen_slice, PCall_func, put, tset, tget, ev, bnd, fill_one, fill1_int, scrub, padTo, aresAll, ares, packRes, abin_add, abin_sub, abin_mul, abin_eql, abin_neq, abin_lss, abin_leq, abin_gtr, abin_geq, aun_not, maxV_two, List.length_cons, List.length_nil, List.replicate, List.cons_append, List.nil_append, List.append_nil, List.map_cons, List.map_nil, Nat.reduceAdd, Nat.reduceSub, ite_true, ite_false, if_true, if_false, Bool.false_eq_true, reduceIte, decide_true, decide_false, Bool.not_true, Bool.not_false, beq_self_eq_true, List.length_map, ne_eq, not_true_eq_false, not_false_eq_true, b2, hS.plen, hlt]
          rw [W_scrub]
          simp only [scrub, tset]
          refine (?_ : ∀ (m k : Nat), k + m = ls.length → Q (.bool (anyLong (ls.drop k))) h1 → W (lim tab) (.loop ?sc2 ?x2) [.junk, lv, .junk, .junk, .junk, .junk, i64 k, .junk, .junk, .junk, .junk, .junk, .junk, .junk, .junk, .junk, .junk, .junk, .junk, .junk, .junk, .junk, .junk, .junk, .junk, .junk, .junk, .junk, .junk, .junk, .junk, .junk, .junk, .junk, .junk, .junk, .junk, .junk, .junk, .junk, .junk, .junk, .junk, .junk, .junk, .junk, .junk, .junk, .junk] h1 ?r1 ?r2 ?r3) ls.length 0 (by simp) hq
          intro m
          induction m with
          | zero =>
            intro k hk hq
            rw [W_round]
            have hd : ls.drop k = [] := List.drop_eq_nil_of_le (by omega)
            rw [hd] at hq
            have hlt : ¬ (k : Int) < ls.length := by omega
            simp only [W_skip, W_ret, W_exit, W_region, W_seq, W_block, W_cond, PCondW_true, PCondW_false, PCondW_dec, PGuardW_tt, PGuardW_ff, PGuardW_tf, PGuardW_ft, PGuardW_tuple, PGuardW_dec_t, PGuardW_dec_f, pickV_true, pickV_false, pickV_dec, KSeq_eq, KBlock_eq, WL_eq, WO_nil, WO_none, WO_some, KPut_eq, KRes_eq, KFalse, WS_call, WS_move, WS_pick, WS_alloc, WS_box, WS_build, WS_buildSlice, WS_load, WS_loadAgg, WS_store, WS_nilCheck, WS_bin, WS_eqB, WS_isNil, WS_eqCells, WS_un, WS_convInt, WS_mkFunc, WS_makeMap, WS_makeSlice, WS_slice, WS_fieldAddr, WS_field, WS_fieldN, WS_indexAddr, WS_indexAddrA, WS_index, WS_extract, WS_len, WS_append, WS_max, PPtr_ptr, PInt_int, PBool_bool, PSome_some, PAgg_agg, PTuple_tuple, PSlice_slice, PSlice_nil, PLen_nil, PLen_slice, PCall_func, put, tset, tget, ev, bnd, fill_one, fill1_int, scrub, padTo, aresAll, ares, packRes, abin_add, abin_sub, abin_mul, abin_eql, abin_neq, abin_lss, abin_leq, abin_gtr, abin_geq, aun_not, maxV_two, List.length_cons, List.length_nil, List.replicate, List.cons_append, List.nil_append, List.append_nil, List.map_cons, List.map_nil, Nat.reduceAdd, Nat.reduceSub, ite_true, ite_false, if_true, if_false, Bool.false_eq_true, reduceIte, decide_true, decide_false, Bool.not_true, Bool.not_false, beq_self_eq_true, List.length_map, ne_eq, not_true_eq_false, not_false_eq_true, hL.plen, hlt]
            exact hq
          | succ m ih =>
            intro k hk hq
            rw [W_round]
            have hk' : k < ls.length := by omega
            rw [drop_get hk', anyLong_cons] at hq
            have hlt : (k : Int) < ls.length := by omega
            have hw := wrap_succ (k := k) (by omega)
            have hpl := hls ls[k] (List.getElem_mem hk')
            unfold IsSl at hpl
            by_cases d : 40 < rlen ls[k]
            · rw [if_pos d] at hq
              have d' : (40 : Int) < rlen ls[k] := by omega
              simp only [W_skip, W_ret, W_exit, W_region, W_seq, W_block, W_cond, PCondW_true, PCondW_false, PCondW_dec, PGuardW_tt, PGuardW_ff, PGuardW_tf, PGuardW_ft, PGuardW_tuple, PGuardW_dec_t, PGuardW_dec_f, pickV_true, pickV_false, pickV_dec, KSeq_eq, KBlock_eq, WL_eq, WO_nil, WO_none, WO_some, KPut_eq, KRes_eq, KFalse, WS_call, WS_move, WS_pick, WS_alloc, WS_box, WS_build, WS_buildSlice, WS_load, WS_loadAgg, WS_store, WS_nilCheck, WS_bin, WS_eqB, WS_isNil, WS_eqCells, WS_un, WS_convInt, WS_mkFunc, WS_makeMap, WS_makeSlice, WS_slice, WS_fieldAddr, WS_field, WS_fieldN, WS_indexAddr, WS_indexAddrA, WS_index, WS_extract, WS_len, WS_append, WS_max, PPtr_ptr, PInt_int, PBool_bool, PSome_some, PAgg_agg, PTuple_tuple, PSlice_slice, PSlice_nil, PLen_nil, PLen_slice, PCall_func, put, tset, tget, ev, bnd, fill_one, fill1_int, scrub, padTo, aresAll, ares, packRes, abin_add, abin_sub, abin_mul, abin_eql, abin_neq, abin_lss, abin_leq, abin_gtr, abin_geq, aun_not, maxV_two, List.length_cons, List.length_nil, List.replicate, List.cons_append, List.nil_append, List.append_nil, List.map_cons, List.map_nil, Nat.reduceAdd, Nat.reduceSub, ite_true, ite_false, if_true, if_false, Bool.false_eq_true, reduceIte, decide_true, decide_false, Bool.not_true, Bool.not_false, beq_self_eq_true, List.length_map, ne_eq, not_true_eq_false, not_false_eq_true, hL.plen, hlt, hL.pidx hk', hL.cell hk', hpl, d']
              exact hq
            · rw [if_neg d] at hq
              have d' : ¬ (40 : Int) < rlen ls[k] := by omega
              simp only [W_skip, W_ret, W_exit, W_region, W_seq, W_block, W_cond, PCondW_true, PCondW_false, PCondW_dec, PGuardW_tt, PGuardW_ff, PGuardW_tf, PGuardW_ft, PGuardW_tuple, PGuardW_dec_t, PGuardW_dec_f, pickV_true, pickV_false, pickV_dec, KSeq_eq, KBlock_eq, WL_eq, WO_nil, WO_none, WO_some, KPut_eq, KRes_eq, KFalse, WS_call, WS_move, WS_pick, WS_alloc, WS_box, WS_build, WS_buildSlice, WS_load, WS_loadAgg, WS_store, WS_nilCheck, WS_bin, WS_eqB, WS_isNil, WS_eqCells, WS_un, WS_convInt, WS_mkFunc, WS_makeMap, WS_makeSlice, WS_slice, WS_fieldAddr, WS_field, WS_fieldN, WS_indexAddr, WS_indexAddrA, WS_index, WS_extract, WS_len, WS_append, WS_max, PPtr_ptr, PInt_int, PBool_bool, PSome_some, PAgg_agg, PTuple_tuple, PSlice_slice, PSlice_nil, PLen_nil, PLen_slice, PCall_func, put, tset, tget, ev, bnd, fill_one, fill1_int, scrub, padTo, aresAll, ares, packRes, abin_add, abin_sub, abin_mul, abin_eql, abin_neq, abin_lss, abin_leq, abin_gtr, abin_geq, aun_not, maxV_two, List.length_cons, List.length_nil, List.replicate, List.cons_append, List.nil_append, List.append_nil, List.map_cons, List.map_nil, Nat.reduceAdd, Nat.reduceSub, ite_true, ite_false, if_true, if_false, Bool.false_eq_true, reduceIte, decide_true, decide_false, Bool.not_true, Bool.not_false, beq_self_eq_true, List.length_map, ne_eq, not_true_eq_false, not_false_eq_true, hL.plen, hlt, hL.pidx hk', hL.cell hk', hpl, d', hw]
              rw [W_scrub]
              simp only [scrub, tset]
              exact ih (k + 1) (by omega) hq
        | succ m ih =>
          intro k hk hq
          rw [W_round]
          have hk' : k < rs.length := by omega
          rw [drop_get hk', anyLong_cons] at hq
          have hlt : (k : Int) < rs.length := by omega
          have hw := wrap_succ (k := k) (by show k < 1000000000000; omega)
          have hpl := hrs rs[k] (List.getElem_mem hk')
          unfold IsSl at hpl
          by_cases d : 40 < rlen rs[k]
          · rw [if_pos d, if_pos rfl] at hq
            have d' : (40 : Int) < rlen rs[k] := by omega
            simp only [W_skip, W_ret, W_exit, W_region, W_seq, W_block, W_cond, PCondW_true, PCondW_false, PCondW_dec, PGuardW_tt, PGuardW_ff, PGuardW_tf, PGuardW_ft, PGuardW_tuple, PGuardW_dec_t, PGuardW_dec_f, pickV_true, pickV_false, pickV_dec, KSeq_eq, KBlock_eq, WL_eq, WO_nil, WO_none, WO_some, KPut_eq, KRes_eq, KFalse, WS_call, WS_move, WS_pick, WS_alloc, WS_box, WS_build, WS_buildSlice, WS_load, WS_loadAgg, WS_store, WS_nilCheck, WS_bin, WS_eqB, WS_isNil, WS_eqCells, WS_un, WS_convInt, WS_mkFunc, WS_makeMap, WS_makeSlice, WS_slice, WS_fieldAddr, WS_field, WS_fieldN, WS_indexAddr, WS_indexAddrA, WS_index, WS_extract, WS_len, WS_append, WS_max, PPtr_ptr, PInt_int, PBool_bool, PSome_some, PAgg_agg, PTuple_tuple, PSlice_slice, PSlice_nil, PLen_nil, PLen_slice, PCall_func, put, tset, tget, ev, bnd, fill_one, fill1_int, scrub, padTo, aresAll, ares, packRes, abin_add, abin_sub, abin_mul, abin_eql, abin_neq, abin_lss, abin_leq, abin_gtr, abin_geq, aun_not, maxV_two, List.length_cons, List.length_nil, List.replicate, List.cons_append, List.nil_append, List.append_nil, List.map_cons, List.map_nil, Nat.reduceAdd, Nat.reduceSub, ite_true, ite_false, if_true, if_false, Bool.false_eq_true, reduceIte, decide_true, decide_false, Bool.not_true, Bool.not_false, beq_self_eq_true, List.length_map, ne_eq, not_true_eq_false, not_false_eq_true, b2, hS.plen, hlt, hS.pidx hk', hS.cell hk', hpl, d']
            exact hq
          · rw [if_neg d] at hq
            have d' : ¬ (40 : Int) < rlen rs[k] := by omega
            simp only [W_skip, W_ret, W_exit, W_region, W_seq, W_block, W_cond, PCondW_true, PCondW_false, PCondW_dec, PGuardW_tt, PGuardW_ff, PGuardW_tf, PGuardW_ft, PGuardW_tuple, PGuardW_dec_t, PGuardW_dec_f, pickV_true, pickV_false, pickV_dec, KSeq_eq, KBlock_eq, WL_eq, WO_nil, WO_none, WO_some, KPut_eq, KRes_eq, KFalse, WS_call, WS_move, WS_pick, WS_alloc, WS_box, WS_build, WS_buildSlice, WS_load, WS_loadAgg, WS_store, WS_nilCheck, WS_bin, WS_eqB, WS_isNil, WS_eqCells, WS_un, WS_convInt, WS_mkFunc, WS_makeMap, WS_makeSlice, WS_slice, WS_fieldAddr, WS_field, WS_fieldN, WS_indexAddr, WS_indexAddrA, WS_index, WS_extract, WS_len, WS_append, WS_max, PPtr_ptr, PInt_int, PBool_bool, PSome_some, PAgg_agg, PTuple_tuple, PSlice_slice, PSlice_nil, PLen_nil, PLen_slice, PCall_func, put, tset, tget, ev, bnd, fill_one, fill1_int, scrub, padTo, aresAll, ares, packRes, abin_add, abin_sub, abin_mul, abin_eql, abin_neq, abin_lss, abin_leq, abin_gtr, abin_geq, aun_not, maxV_two, List.length_cons, List.length_nil, List.replicate, List.cons_append, List.nil_append, List.append_nil, List.map_cons, List.map_nil, Nat.reduceAdd, Nat.reduceSub, ite_true, ite_false, if_true, if_false, Bool.false_eq_true, reduceIte, decide_true, decide_false, Bool.not_true, Bool.not_false, beq_self_eq_true, List.length_map, ne_eq, not_true_eq_false, not_false_eq_true, b2, hS.plen, hlt, hS.pidx hk', hS.cell hk', hpl, d', hw]
            rw [W_scrub]
            simp only [scrub, tset]
            exact ih (k + 1) (by omega) hq

omit T in
theorem playGo_len (st : List Int) : ∀ (f : Nat) (all : List Int) (v : Int), (playGo st f all v).1.length ≤ all.length + f ∧ (playGo st f all v).2.length ≤ all.length + f
  | 0, all, v => by simp [playGo]
  | f + 1, all, v => by
    unfold playGo
    split
    · simp only [List.length_take, List.length_drop]; omega
    · have := playGo_len st f (all ++ [v]) (st.getD v.toNat 0)
      simp only [List.length_append, List.length_cons, List.length_nil] at this
      omega
omit T in
theorem playM_len (ow pr : List Int) (su : List (List Int)) (st : List Int) (start : Int) : (playM ow pr su st start).1.1.length ≤ ow.length + 1 ∧ (playM ow pr su st start).1.2.length ≤ ow.length + 1 := by
  unfold playM
  split
  · simp
  · split
    · simp
    · split
      · simp
      · cases movesOk su 0 st with
        | false => simp [playFin]
        | true => simpa [playFin] using playGo_len st (ow.length + 1) [] start

/-- The law, on plain data. -/
theorem playsMatch {h : H} {vo vp vs sv lv : AV} {rs : List AV} {ow pr st loop : List Int} {su : List (List Int)} {start : Int} (ho : SlV vo (ow.map u8) h) (hp : SlV vp (pr.map i64) h) (hs : SlV vs rs h) (hlen : rs.length = su.length)
    (hrow : ∀ i (h1 : i < rs.length) (h2 : i < su.length), SlV rs[i] (su[i].map i64) h) (hst : SlV sv (st.map i64) h) (hlo : SlV lv (loop.map i64) h) :
    C (lim tab) 14 [.agg [vo, vp, vs], sv, i64 start, lv] h fun v _ => v = .bool true := by
  rw [C_fn T.h14]
  have e1 := Ext.alloc h (.cells 0 true [vo, vp, vs])
  have hlt1 : h.next < (h.alloc (.cells 0 true [vo, vp, vs])).next := by simp
  have b3 : getCells (h.alloc (.cells 0 true [vo, vp, vs])) h.next 0 3 = some [vo, vp, vs] := box_cells h _ 3 rfl
  have hone : [vo, vp, vs].all AV.one = true := by simp [ho.one, hp.one, hs.one]
  generalize hh1 : h.alloc (.cells 0 true [vo, vp, vs]) = h1 at *
  have e2 := Ext.alloc h1 (.cells 0 true [sv, lv])
  have hlit : SlV (.slice true 1 h1.next 0 2) [sv, lv] (h1.alloc (.cells 0 true [sv, lv])) := .inr ⟨true, h1.next, 0, 0, true, [sv, lv], rfl, H.get_alloc_new _ _, by simp, by simp⟩
  simp only [af14, W_skip, W_ret, W_exit, W_region, W_seq, W_block, W_cond, PCondW_true, PCondW_false, PCondW_dec, PGuardW_tt, PGuardW_ff, PGuardW_tf, PGuardW_ft, PGuardW_tuple, PGuardW_dec_t, PGuardW_dec_f, pickV_true, pickV_false, pickV_dec, KSeq_eq, KBlock_eq, WL_eq, WO_nil, WO_none, WO_some, KPut_eq, KRes_eq, KFalse, WS_call, WS_move, WS_pick, WS_alloc, WS_box, WS_build, WS_buildSlice, WS_load, WS_loadAgg, WS_store, WS_nilCheck, WS_bin, WS_eqB, WS_isNil, WS_eqCells, WS_un, WS_convInt, WS_mkFunc, WS_makeMap, WS_makeSlice, WS_slice, WS_fieldAddr, WS_field, WS_fieldN, WS_indexAddr, WS_indexAddrA, WS_index, WS_extract, WS_len, WS_append, WS_max, PPtr_ptr, PInt_int, PBool_bool, PSome_some, PAgg_agg, PTuple_tuple, PSlice_slice, PSlice_nil, PLen_nil, PLen_slice, PCall_func, put, tset, tget, ev, bnd, fill_one, fill1_int, scrub, padTo, aresAll, ares, packRes, abin_add, abin_sub, abin_mul, abin_eql, abin_neq, abin_lss, abin_leq, abin_gtr, abin_geq, aun_not, maxV_two, List.length_cons, List.length_nil, List.replicate, List.cons_append, List.nil_append, List.append_nil, List.map_cons, List.map_nil, Nat.reduceAdd, Nat.reduceSub, ite_true, ite_false, if_true, if_false, Bool.false_eq_true, reduceIte, decide_true, decide_false, Bool.not_true, Bool.not_false, beq_self_eq_true, List.length_map, ne_eq, not_true_eq_false, not_false_eq_true, AV.cells, hone, hh1, b3, true_and, fill_two, fill2_sl hst hlo]
  generalize hh2 : h1.alloc (.cells 0 true [sv, lv]) = h2 at *
  have e12 := e1.trans e2
  have hrsl : ∀ r ∈ rs, IsSl r := by
    intro r hr
    obtain ⟨i, hi, rfl⟩ := List.getElem_of_mem hr
    exact (hrow i hi (by omega)).isSl.1
  refine long_spec T (ho.ext e12) (hp.ext e12) (hs.ext e12) hrsl hlit (by intro r hr; simp at hr; rcases hr with rfl | rfl; exact hst.isSl.1; exact hlo.isSl.1) (by show (2 : Nat) < 1000000000000; omega) fun h3 e3 => ?_
  have c3 : getCells h3 h.next 0 3 = some [vo, vp, vs] := by rw [ext_cells (e2.trans e3) hlt1]; exact b3
  have e13 := e12.trans e3
  cases hlg : longM (ow.map u8).length (pr.map i64).length rs [sv, lv] with
  | true =>
    simp only [W_skip, W_ret, W_exit, W_region, W_seq, W_block, W_cond, PCondW_true, PCondW_false, PCondW_dec, PGuardW_tt, PGuardW_ff, PGuardW_tf, PGuardW_ft, PGuardW_tuple, PGuardW_dec_t, PGuardW_dec_f, pickV_true, pickV_false, pickV_dec, KSeq_eq, KBlock_eq, WL_eq, WO_nil, WO_none, WO_some, KPut_eq, KRes_eq, KFalse, WS_call, WS_move, WS_pick, WS_alloc, WS_box, WS_build, WS_buildSlice, WS_load, WS_loadAgg, WS_store, WS_nilCheck, WS_bin, WS_eqB, WS_isNil, WS_eqCells, WS_un, WS_convInt, WS_mkFunc, WS_makeMap, WS_makeSlice, WS_slice, WS_fieldAddr, WS_field, WS_fieldN, WS_indexAddr, WS_indexAddrA, WS_index, WS_extract, WS_len, WS_append, WS_max, PPtr_ptr, PInt_int, PBool_bool, PSome_some, PAgg_agg, PTuple_tuple, PSlice_slice, PSlice_nil, PLen_nil, PLen_slice, PCall_func, put, tset, tget, ev, bnd, fill_one, fill1_int, scrub, padTo, aresAll, ares, packRes, abin_add, abin_sub, abin_mul, abin_eql, abin_neq, abin_lss, abin_leq, abin_gtr, abin_geq, aun_not, maxV_two, List.length_cons, List.length_nil, List.replicate, List.cons_append, List.nil_append, List.append_nil, List.map_cons, List.map_nil, Nat.reduceAdd, Nat.reduceSub, ite_true, ite_false, if_true, if_false, Bool.false_eq_true, reduceIte, decide_true, decide_false, Bool.not_true, Bool.not_false, beq_self_eq_true, List.length_map, ne_eq, not_true_eq_false, not_false_eq_true]
    rw [C_true T.awake]
    simp only [W_skip, W_ret, W_exit, W_region, W_seq, W_block, W_cond, PCondW_true, PCondW_false, PCondW_dec, PGuardW_tt, PGuardW_ff, PGuardW_tf, PGuardW_ft, PGuardW_tuple, PGuardW_dec_t, PGuardW_dec_f, pickV_true, pickV_false, pickV_dec, KSeq_eq, KBlock_eq, WL_eq, WO_nil, WO_none, WO_some, KPut_eq, KRes_eq, KFalse, WS_call, WS_move, WS_pick, WS_alloc, WS_box, WS_build, WS_buildSlice, WS_load, WS_loadAgg, WS_store, WS_nilCheck, WS_bin, WS_eqB, WS_isNil, WS_eqCells, WS_un, WS_convInt, WS_mkFunc, WS_makeMap, WS_makeSlice, WS_slice, WS_fieldAddr, WS_field, WS_fieldN, WS_indexAddr, WS_indexAddrA, WS_index, WS_extract, WS_len, WS_append, WS_max, PPtr_ptr, PInt_int, PBool_bool, PSome_some, PAgg_agg, PTuple_tuple, PSlice_slice, PSlice_nil, PLen_nil, PLen_slice, PCall_func, put, tset, tget, ev, bnd, fill_one, fill1_int, scrub, padTo, aresAll, ares, packRes, abin_add, abin_sub, abin_mul, abin_eql, abin_neq, abin_lss, abin_leq, abin_gtr, abin_geq, aun_not, maxV_two, List.length_cons, List.length_nil, List.replicate, List.cons_append, List.nil_append, List.append_nil, List.map_cons, List.map_nil, Nat.reduceAdd, Nat.reduceSub, ite_true, ite_false, if_true, if_false, Bool.false_eq_true, reduceIte, decide_true, decide_false, Bool.not_true, Bool.not_false, beq_self_eq_true, List.length_map, ne_eq, not_true_eq_false, not_false_eq_true]
  | false =>
    unfold longM at hlg
    split at hlg
    · cases hlg
    · rename_i hsz
      split at hlg
      · cases hlg
      · rename_i har
        have har' := anyLong_false (by simpa using har)
        have hal := anyLong_false hlg
        simp only [List.length_map] at hsz
        have lst : st.length ≤ 40 := by have := hal sv (by simp); rw [hst.isSl.2] at this; simpa using this
        have llo : loop.length ≤ 40 := by have := hal lv (by simp); rw [hlo.isSl.2] at this; simpa using this
        have G : Gm vo vp vs rs ow pr su h := ⟨ho, hp, hs, hlen, hrow, by show ow.length < 1000000000000; omega, by show pr.length < 1000000000000; omega, by show su.length < 1000000000000; omega, fun i hi => by
          have h1 := har' rs[i] (List.getElem_mem (by omega))
          rw [(hrow i (by omega) hi).isSl.2] at h1
          show su[i].length < 1000000000000
          simp at h1; omega⟩
        have hb1 : st.length < big := by show st.length < 1000000000000; omega
        have hb2 : loop.length < big := by show loop.length < 1000000000000; omega
        obtain ⟨lp1, lp2⟩ := playM_len ow pr su st start
        simp only [W_skip, W_ret, W_exit, W_region, W_seq, W_block, W_cond, PCondW_true, PCondW_false, PCondW_dec, PGuardW_tt, PGuardW_ff, PGuardW_tf, PGuardW_ft, PGuardW_tuple, PGuardW_dec_t, PGuardW_dec_f, pickV_true, pickV_false, pickV_dec, KSeq_eq, KBlock_eq, WL_eq, WO_nil, WO_none, WO_some, KPut_eq, KRes_eq, KFalse, WS_call, WS_move, WS_pick, WS_alloc, WS_box, WS_build, WS_buildSlice, WS_load, WS_loadAgg, WS_store, WS_nilCheck, WS_bin, WS_eqB, WS_isNil, WS_eqCells, WS_un, WS_convInt, WS_mkFunc, WS_makeMap, WS_makeSlice, WS_slice, WS_fieldAddr, WS_field, WS_fieldN, WS_indexAddr, WS_indexAddrA, WS_index, WS_extract, WS_len, WS_append, WS_max, PPtr_ptr, PInt_int, PBool_bool, PSome_some, PAgg_agg, PTuple_tuple, PSlice_slice, PSlice_nil, PLen_nil, PLen_slice, PCall_func, put, tset, tget, ev, bnd, fill_one, fill1_int, scrub, padTo, aresAll, ares, packRes, abin_add, abin_sub, abin_mul, abin_eql, abin_neq, abin_lss, abin_leq, abin_gtr, abin_geq, aun_not, maxV_two, List.length_cons, List.length_nil, List.replicate, List.cons_append, List.nil_append, List.append_nil, List.map_cons, List.map_nil, Nat.reduceAdd, Nat.reduceSub, ite_true, ite_false, if_true, if_false, Bool.false_eq_true, reduceIte, decide_true, decide_false, Bool.not_true, Bool.not_false, beq_self_eq_true, List.length_map, ne_eq, not_true_eq_false, not_false_eq_true, c3]
        refine play_spec T (G.ext e13) (hst.ext e13) hb1 fun a b h4 e4 ha hb => ?_
        have c4 : getCells h4 h.next 0 3 = some [vo, vp, vs] := by rw [ext_cells e4 (Nat.lt_of_lt_of_le hlt1 ((e2.trans e3).next))]; exact c3
        have e14 := e13.trans e4
        simp only [W_skip, W_ret, W_exit, W_region, W_seq, W_block, W_cond, PCondW_true, PCondW_false, PCondW_dec, PGuardW_tt, PGuardW_ff, PGuardW_tf, PGuardW_ft, PGuardW_tuple, PGuardW_dec_t, PGuardW_dec_f, pickV_true, pickV_false, pickV_dec, KSeq_eq, KBlock_eq, WL_eq, WO_nil, WO_none, WO_some, KPut_eq, KRes_eq, KFalse, WS_call, WS_move, WS_pick, WS_alloc, WS_box, WS_build, WS_buildSlice, WS_load, WS_loadAgg, WS_store, WS_nilCheck, WS_bin, WS_eqB, WS_isNil, WS_eqCells, WS_un, WS_convInt, WS_mkFunc, WS_makeMap, WS_makeSlice, WS_slice, WS_fieldAddr, WS_field, WS_fieldN, WS_indexAddr, WS_indexAddrA, WS_index, WS_extract, WS_len, WS_append, WS_max, PPtr_ptr, PInt_int, PBool_bool, PSome_some, PAgg_agg, PTuple_tuple, PSlice_slice, PSlice_nil, PLen_nil, PLen_slice, PCall_func, put, tset, tget, ev, bnd, fill_one, fill1_int, scrub, padTo, aresAll, ares, packRes, abin_add, abin_sub, abin_mul, abin_eql, abin_neq, abin_lss, abin_leq, abin_gtr, abin_geq, aun_not, maxV_two, List.length_cons, List.length_nil, List.replicate, List.cons_append, List.nil_append, List.append_nil, List.map_cons, List.map_nil, Nat.reduceAdd, Nat.reduceSub, ite_true, ite_false, if_true, if_false, Bool.false_eq_true, reduceIte, decide_true, decide_false, Bool.not_true, Bool.not_false, beq_self_eq_true, List.length_map, ne_eq, not_true_eq_false, not_false_eq_true, c4, List.getElem?_cons_zero, List.getElem?_cons_succ]
        refine refPlay_spec T (G.ext e14) (hst.ext e14) hb1 fun c d h5 e5 hc hd => ?_
        have c5 : getCells h5 h.next 0 3 = some [vo, vp, vs] := by rw [ext_cells e5 (Nat.lt_of_lt_of_le hlt1 (((e2.trans e3).trans e4).next))]; exact c4
        have e15 := e14.trans e5
        simp only [W_skip, W_ret, W_exit, W_region, W_seq, W_block, W_cond, PCondW_true, PCondW_false, PCondW_dec, PGuardW_tt, PGuardW_ff, PGuardW_tf, PGuardW_ft, PGuardW_tuple, PGuardW_dec_t, PGuardW_dec_f, pickV_true, pickV_false, pickV_dec, KSeq_eq, KBlock_eq, WL_eq, WO_nil, WO_none, WO_some, KPut_eq, KRes_eq, KFalse, WS_call, WS_move, WS_pick, WS_alloc, WS_box, WS_build, WS_buildSlice, WS_load, WS_loadAgg, WS_store, WS_nilCheck, WS_bin, WS_eqB, WS_isNil, WS_eqCells, WS_un, WS_convInt, WS_mkFunc, WS_makeMap, WS_makeSlice, WS_slice, WS_fieldAddr, WS_field, WS_fieldN, WS_indexAddr, WS_indexAddrA, WS_index, WS_extract, WS_len, WS_append, WS_max, PPtr_ptr, PInt_int, PBool_bool, PSome_some, PAgg_agg, PTuple_tuple, PSlice_slice, PSlice_nil, PLen_nil, PLen_slice, PCall_func, put, tset, tget, ev, bnd, fill_one, fill1_int, scrub, padTo, aresAll, ares, packRes, abin_add, abin_sub, abin_mul, abin_eql, abin_neq, abin_lss, abin_leq, abin_gtr, abin_geq, aun_not, maxV_two, List.length_cons, List.length_nil, List.replicate, List.cons_append, List.nil_append, List.append_nil, List.map_cons, List.map_nil, Nat.reduceAdd, Nat.reduceSub, ite_true, ite_false, if_true, if_false, Bool.false_eq_true, reduceIte, decide_true, decide_false, Bool.not_true, Bool.not_false, beq_self_eq_true, List.length_map, ne_eq, not_true_eq_false, not_false_eq_true, c5, List.getElem?_cons_zero, List.getElem?_cons_succ]
        refine winner_spec T (G.ext e15) (hlo.ext e15) hb2 fun h6 e6 => ?_
        have c6 : getCells h6 h.next 0 3 = some [vo, vp, vs] := by rw [ext_cells e6 (Nat.lt_of_lt_of_le hlt1 ((((e2.trans e3).trans e4).trans e5).next))]; exact c5
        have e16 := e15.trans e6
        simp only [W_skip, W_ret, W_exit, W_region, W_seq, W_block, W_cond, PCondW_true, PCondW_false, PCondW_dec, PGuardW_tt, PGuardW_ff, PGuardW_tf, PGuardW_ft, PGuardW_tuple, PGuardW_dec_t, PGuardW_dec_f, pickV_true, pickV_false, pickV_dec, KSeq_eq, KBlock_eq, WL_eq, WO_nil, WO_none, WO_some, KPut_eq, KRes_eq, KFalse, WS_call, WS_move, WS_pick, WS_alloc, WS_box, WS_build, WS_buildSlice, WS_load, WS_loadAgg, WS_store, WS_nilCheck, WS_bin, WS_eqB, WS_isNil, WS_eqCells, WS_un, WS_convInt, WS_mkFunc, WS_makeMap, WS_makeSlice, WS_slice, WS_fieldAddr, WS_field, WS_fieldN, WS_indexAddr, WS_indexAddrA, WS_index, WS_extract, WS_len, WS_append, WS_max, PPtr_ptr, PInt_int, PBool_bool, PSome_some, PAgg_agg, PTuple_tuple, PSlice_slice, PSlice_nil, PLen_nil, PLen_slice, PCall_func, put, tset, tget, ev, bnd, fill_one, fill1_int, scrub, padTo, aresAll, ares, packRes, abin_add, abin_sub, abin_mul, abin_eql, abin_neq, abin_lss, abin_leq, abin_gtr, abin_geq, aun_not, maxV_two, List.length_cons, List.length_nil, List.replicate, List.cons_append, List.nil_append, List.append_nil, List.map_cons, List.map_nil, Nat.reduceAdd, Nat.reduceSub, ite_true, ite_false, if_true, if_false, Bool.false_eq_true, reduceIte, decide_true, decide_false, Bool.not_true, Bool.not_false, beq_self_eq_true, List.length_map, ne_eq, not_true_eq_false, not_false_eq_true, c6, List.getElem?_cons_zero, List.getElem?_cons_succ]
        refine refWinner_spec T (G.ext e16) (hlo.ext e16) hb2 fun h7 e7 => ?_
        have ea := (e5.trans e6).trans e7
        have ec := e6.trans e7
        simp only [W_skip, W_ret, W_exit, W_region, W_seq, W_block, W_cond, PCondW_true, PCondW_false, PCondW_dec, PGuardW_tt, PGuardW_ff, PGuardW_tf, PGuardW_ft, PGuardW_tuple, PGuardW_dec_t, PGuardW_dec_f, pickV_true, pickV_false, pickV_dec, KSeq_eq, KBlock_eq, WL_eq, WO_nil, WO_none, WO_some, KPut_eq, KRes_eq, KFalse, WS_call, WS_move, WS_pick, WS_alloc, WS_box, WS_build, WS_buildSlice, WS_load, WS_loadAgg, WS_store, WS_nilCheck, WS_bin, WS_eqB, WS_isNil, WS_eqCells, WS_un, WS_convInt, WS_mkFunc, WS_makeMap, WS_makeSlice, WS_slice, WS_fieldAddr, WS_field, WS_fieldN, WS_indexAddr, WS_indexAddrA, WS_index, WS_extract, WS_len, WS_append, WS_max, PPtr_ptr, PInt_int, PBool_bool, PSome_some, PAgg_agg, PTuple_tuple, PSlice_slice, PSlice_nil, PLen_nil, PLen_slice, PCall_func, put, tset, tget, ev, bnd, fill_one, fill1_int, scrub, padTo, aresAll, ares, packRes, abin_add, abin_sub, abin_mul, abin_eql, abin_neq, abin_lss, abin_leq, abin_gtr, abin_geq, aun_not, maxV_two, List.length_cons, List.length_nil, List.replicate, List.cons_append, List.nil_append, List.append_nil, List.map_cons, List.map_nil, Nat.reduceAdd, Nat.reduceSub, ite_true, ite_false, if_true, if_false, Bool.false_eq_true, reduceIte, decide_true, decide_false, Bool.not_true, Bool.not_false, beq_self_eq_true, List.length_map, ne_eq, not_true_eq_false, not_false_eq_true, List.getElem?_cons_zero, List.getElem?_cons_succ]
        refine equalInts_spec T (ha.ext ea) (hc.ext ec) (by show _ < 1000000000000; omega) ?_
        simp only [W_skip, W_ret, W_exit, W_region, W_seq, W_block, W_cond, PCondW_true, PCondW_false, PCondW_dec, PGuardW_tt, PGuardW_ff, PGuardW_tf, PGuardW_ft, PGuardW_tuple, PGuardW_dec_t, PGuardW_dec_f, pickV_true, pickV_false, pickV_dec, KSeq_eq, KBlock_eq, WL_eq, WO_nil, WO_none, WO_some, KPut_eq, KRes_eq, KFalse, WS_call, WS_move, WS_pick, WS_alloc, WS_box, WS_build, WS_buildSlice, WS_load, WS_loadAgg, WS_store, WS_nilCheck, WS_bin, WS_eqB, WS_isNil, WS_eqCells, WS_un, WS_convInt, WS_mkFunc, WS_makeMap, WS_makeSlice, WS_slice, WS_fieldAddr, WS_field, WS_fieldN, WS_indexAddr, WS_indexAddrA, WS_index, WS_extract, WS_len, WS_append, WS_max, PPtr_ptr, PInt_int, PBool_bool, PSome_some, PAgg_agg, PTuple_tuple, PSlice_slice, PSlice_nil, PLen_nil, PLen_slice, PCall_func, put, tset, tget, ev, bnd, fill_one, fill1_int, scrub, padTo, aresAll, ares, packRes, abin_add, abin_sub, abin_mul, abin_eql, abin_neq, abin_lss, abin_leq, abin_gtr, abin_geq, aun_not, maxV_two, List.length_cons, List.length_nil, List.replicate, List.cons_append, List.nil_append, List.append_nil, List.map_cons, List.map_nil, Nat.reduceAdd, Nat.reduceSub, ite_true, ite_false, if_true, if_false, Bool.false_eq_true, reduceIte, decide_true, decide_false, Bool.not_true, Bool.not_false, beq_self_eq_true, List.length_map, ne_eq, not_true_eq_false, not_false_eq_true]
        refine equalInts_spec T (hb.ext ea) (hd.ext ec) (by show _ < 1000000000000; omega) ?_
        simp only [W_skip, W_ret, W_exit, W_region, W_seq, W_block, W_cond, PCondW_true, PCondW_false, PCondW_dec, PGuardW_tt, PGuardW_ff, PGuardW_tf, PGuardW_ft, PGuardW_tuple, PGuardW_dec_t, PGuardW_dec_f, pickV_true, pickV_false, pickV_dec, KSeq_eq, KBlock_eq, WL_eq, WO_nil, WO_none, WO_some, KPut_eq, KRes_eq, KFalse, WS_call, WS_move, WS_pick, WS_alloc, WS_box, WS_build, WS_buildSlice, WS_load, WS_loadAgg, WS_store, WS_nilCheck, WS_bin, WS_eqB, WS_isNil, WS_eqCells, WS_un, WS_convInt, WS_mkFunc, WS_makeMap, WS_makeSlice, WS_slice, WS_fieldAddr, WS_field, WS_fieldN, WS_indexAddr, WS_indexAddrA, WS_index, WS_extract, WS_len, WS_append, WS_max, PPtr_ptr, PInt_int, PBool_bool, PSome_some, PAgg_agg, PTuple_tuple, PSlice_slice, PSlice_nil, PLen_nil, PLen_slice, PCall_func, put, tset, tget, ev, bnd, fill_one, fill1_int, scrub, padTo, aresAll, ares, packRes, abin_add, abin_sub, abin_mul, abin_eql, abin_neq, abin_lss, abin_leq, abin_gtr, abin_geq, aun_not, maxV_two, List.length_cons, List.length_nil, List.replicate, List.cons_append, List.nil_append, List.append_nil, List.map_cons, List.map_nil, Nat.reduceAdd, Nat.reduceSub, ite_true, ite_false, if_true, if_false, Bool.false_eq_true, reduceIte, decide_true, decide_false, Bool.not_true, Bool.not_false, beq_self_eq_true, List.length_map, ne_eq, not_true_eq_false, not_false_eq_true]
        rw [C_true T.awake]
        simp only [W_skip, W_ret, W_exit, W_region, W_seq, W_block, W_cond, PCondW_true, PCondW_false, PCondW_dec, PGuardW_tt, PGuardW_ff, PGuardW_tf, PGuardW_ft, PGuardW_tuple, PGuardW_dec_t, PGuardW_dec_f, pickV_true, pickV_false, pickV_dec, KSeq_eq, KBlock_eq, WL_eq, WO_nil, WO_none, WO_some, KPut_eq, KRes_eq, KFalse, WS_call, WS_move, WS_pick, WS_alloc, WS_box, WS_build, WS_buildSlice, WS_load, WS_loadAgg, WS_store, WS_nilCheck, WS_bin, WS_eqB, WS_isNil, WS_eqCells, WS_un, WS_convInt, WS_mkFunc, WS_makeMap, WS_makeSlice, WS_slice, WS_fieldAddr, WS_field, WS_fieldN, WS_indexAddr, WS_indexAddrA, WS_index, WS_extract, WS_len, WS_append, WS_max, PPtr_ptr, PInt_int, PBool_bool, PSome_some, PAgg_agg, PTuple_tuple, PSlice_slice, PSlice_nil, PLen_nil, PLen_slice, PCall_func, put, tset, tget, ev, bnd, fill_one, fill1_int, scrub, padTo, aresAll, ares, packRes, abin_add, abin_sub, abin_mul, abin_eql, abin_neq, abin_lss, abin_leq, abin_gtr, abin_geq, aun_not, maxV_two, List.length_cons, List.length_nil, List.replicate, List.cons_append, List.nil_append, List.append_nil, List.map_cons, List.map_nil, Nat.reduceAdd, Nat.reduceSub, ite_true, ite_false, if_true, if_false, Bool.false_eq_true, reduceIte, decide_true, decide_false, Bool.not_true, Bool.not_false, beq_self_eq_true, List.length_map, ne_eq, not_true_eq_false, not_false_eq_true]
end
end Go.Am.Ar
