/- Truths, edges and automata are written over, and what goes with it. -/
import Derived.Test.YtbcdfmecpjbeaaaDoorSubsetDeterminizesG0
import Derived.Test.YtbcdfmecpjbeaaaDoorPmC
import Derived.Test.YtbcdfmecpjbeaaaDoorSubsetDeterminizesG1
import Derived.Test.YtbcdfmecpjbeaaaDoorSubsetDeterminizesG3
import Derived.Test.YtbcdfmecpjbeaaaDoorSubsetDeterminizesG5
import Derived.Test.YtbcdfmecpjbeaaaDoorSubsetDeterminizesG4
set_option linter.unusedVariables false
set_option linter.unusedSimpArgs false
set_option maxRecDepth 10000
namespace Go.Am.Ar
open Go.Am.PV renaming junk→Zj
def ShA (z z':AV):Prop:=z'=z∨(∃k n n',z= .int k n∧z'= .int k n')∨∃b b',z= .bool b∧z'= .bool b'
structure Ov3 (w:PWd) (h h':H):Prop where
 next:h.next≤h'.next
 keep:∀x,x<h.next→x<w.n0∨w.imm x=none→h'.get x=h.get x
 cells:∀x ver bcs,w.imm x=some (.cells ver true bcs)→w.n0≤x→∃ver' bcs',h'.get x=some (.cells ver' true bcs')∧bcs'.length=bcs.length∧∀(i:Nat) (z:AV),bcs[i]? =some z→∃z',bcs'[i]? =some z'∧ShA z z'
theorem Ov3.refl {w:PWd} {h:H} (hw:∀b o,w.imm b=some o→h.get b=some o):Ov3 w h h:=
 ⟨Nat.le_refl _,fun _ _ _=>rfl,fun x ver bcs hx _=>⟨ver,bcs,hw x _ hx,rfl,fun i z hz=>⟨z,hz,.inl rfl⟩⟩⟩
theorem Ov3.alloc {w:PWd} {h h':H} (hw:∀b o,w.imm b=some o→b<h.next) (hv:Ov3 w h h') (o:AObj):Ov3 w h (h'.alloc o):=
 ⟨Nat.le_trans hv.next (by simp),fun x hx hy=>by rw[H.get_alloc,if_neg (by have:=hv.next;omega)];exact hv.keep x hx hy,fun x ver bcs hx hn=>by
  obtain⟨v2,b2,q1,q2,q3⟩:=hv.cells x ver bcs hx hn
  exact⟨v2,b2,by rw[H.get_alloc,if_neg (by have:=hv.next;have:=hw x _ hx;omega)];exact q1,q2,q3⟩⟩
theorem Ov3.two {w:PWd} {h h':H} (o:Ov3 w h h'):Ov2 w h h':=⟨o.next,o.keep,fun x ver bcs h1 h2=>by
 obtain⟨v,b,q1,q2,q3⟩:=o.cells x ver bcs h1 h2
 refine⟨v,b,q1,q2,fun i z hz hn hb=>?_⟩
 obtain⟨z',g1,g2⟩:=q3 i z hz
 rcases g2 with rfl | ⟨k,n,_,rfl,_⟩ | ⟨b,_,rfl,_⟩
 ·exact g1
 ·exact absurd rfl (hn k n)
 ·exact absurd rfl (hb b)⟩
theorem ov3_putN {w:PWd} {h h':H} (hw:∀b o,w.imm b=some o→b<h.next) (hv:Ov3 w h h') {b ver:Nat} {bcs:List AV} (e1:w.imm b=some (.cells ver true bcs)) (e2:w.n0≤b) {p:Nat} {xs:List AV} (hp:p+xs.length≤bcs.length) (hx:xs.all AV.one=true) (hz:∀i,i<xs.length→∃z x,bcs[p+i]? =some z∧xs[i]? =some x∧ShA z x):
  ∃h2,putCells h' b p xs=some h2∧Ov3 w h h2∧Kp w h' h2:=by
 obtain⟨v2,b2,q1,q2,q3⟩:=hv.cells b ver bcs e1 e2
 have hle:p+xs.length≤b2.length:=by omega
 have hlen:(over b2 p xs).length=b2.length:=by rw[over_get _ _ _ hle];simp;omega
 refine⟨h'.set b (.cells (v2+1) true (over b2 p xs)),?_,⟨?_,?_,?_⟩,⟨Nat.le_refl _,?_⟩⟩
 ·unfold putCells
  rw[q1]
  simp only
  rw[if_pos (by simp only[Bool.and_eq_true,decide_eq_true_eq];exact⟨hle,hx⟩)]
 ·exact hv.next
 ·intro y hy ho
  have:y≠b:=by
   rintro rfl
   rcases ho with ho | ho
   ·omega
   ·rw[e1]at ho;cases ho
  rw[H.get_set_ne this];exact hv.keep y hy ho
 ·intro y ver' bcs' hy hn
  by_cases e:y=b
  ·subst e
   rw[e1]at hy;cases hy
   refine⟨_,_,H.get_set_same q1,by rw[hlen,q2],fun i z hi=>?_⟩
   rw[over_get _ _ _ hle]
   by_cases hip:i<p∨p+xs.length≤i
   ·obtain⟨z',g1,g2⟩:=q3 i z hi
    refine⟨z',?_,g2⟩
    rcases hip with q | q
    ·rw[List.append_assoc,List.getElem?_append_left (by simp;omega),List.getElem?_take,if_pos q];exact g1
    ·rw[List.getElem?_append_right (by simp;omega),List.getElem?_drop]
     simp only[List.length_append,List.length_take]
     rw[show p+xs.length+(i-(min p b2.length+xs.length))=i by omega];exact g1
   ·rw[not_or,Nat.not_lt,Nat.not_le]at hip
    obtain⟨z0,x,g1,g2,g3⟩:=hz (i-p) (by omega)
    rw[show p+(i-p)=i by omega,hi]at g1
    cases g1
    refine⟨x,?_,g3⟩
    rw[List.getElem?_append_left (by simp;omega),List.getElem?_append_right (by simp;omega),List.length_take,show min p b2.length=p by omega];exact g2
  ·obtain⟨v3,b3,r1,r2,r3⟩:=hv.cells y ver' bcs' hy hn
   exact⟨v3,b3,by rw[H.get_set_ne e];exact r1,r2,r3⟩
 ·intro y hy ho
  have:y≠b:=by
   rintro rfl
   rcases ho with ho | ho
   ·omega
   ·rw[e1]at ho;cases ho
  exact H.get_set_ne this
section
variable {tab:FuncId→Option AF} (T:HasA tab)
include T
theorem overInts_3 {w:PWd} {h h1:H} (hw:∀b o,w.imm b=some o→b<h.next) {f:Bool} {xs:List Int} {v:AV} (hr:RepV w (slI f true .i64 xs) v) (hm:xs.length<big) (hi:Ov3 w h h1) {Q:AV→H→Prop} (hq:∀h2,Ov3 w h h2→Kp w h1 h2→Q (.tuple []) h2):
  C (lim tab) 72 [v] h1 Q:=by
 have hcs:cS 12 [0,2]=[1,3,4,5,6,7,8,9,10,11]:=rfl
 rw[C_fn T.h72]
 simp only[af72,W_skip,W_ret,W_regionD,WD_nil,WD_none,KPutD_eq,chkOk_nil,true_and,AO.effect,W_exit,W_region,W_seq,W_block,W_cond,q62,q52,PCondW_dec,PGuardW_tt,PGuardW_ff,PGuardW_tf,PGuardW_ft,q37,q38,q39,pickV_true,q60,pickV_dec,KSeq_eq,q59,WL_eq,WO_nil,WO_none,WO_some,KPut_eq,KCall_eq,KRes_eq,KFalse,WS_call,WS_move,WS_pick,WS_alloc,WS_box,WS_build,q36,WS_load,WS_loadAgg,WS_store,q61,WS_bin,WS_eqB,WS_isNil,WS_eqCells,WS_un,WS_convInt,WS_mkFunc,WS_makeMap,q48,WS_slice,q50,WS_field,WS_fieldN,q49,q35,WS_index,WS_extract,WS_len,WS_append,WS_max,PPtr_ptr,PInt_int,PBool_bool,PSome_some,PAgg_agg,q51,q34,PSlice_nil,PLen_nil,PLen_slice,q63,put,tset,tget,ev,bnd,scrub,padTo,q42,ares,packRes,abin_add,abin_sub,abin_mul,abin_eql,abin_neq,abin_lss,abin_leq,abin_gtr,abin_geq,aun_not,maxV_two,List.length_cons,List.length_nil,List.replicate,List.cons_append,List.nil_append,List.append_nil,List.map_cons,List.map_nil,Nat.reduceAdd,Nat.reduceSub,ite_true,ite_false,if_true,if_false,Bool.false_eq_true,reduceIte,decide_true,decide_false,Bool.not_true,Bool.not_false,beq_self_eq_true,List.length_map,ne_eq,not_true_eq_false,not_false_eq_true]
 rw[W_scrub]
 simp only[hcs,scrub,tset]
 rcases ov_sl hr with⟨rfl,hx⟩ | ⟨fl,b,off,ver,bcs,rfl,e1,e2,e3,e4⟩
 ·rw[W_round]
  have hlt:¬(0:Int)<0:=by omega
  simp only[W_skip,W_ret,W_regionD,WD_nil,WD_none,KPutD_eq,chkOk_nil,true_and,AO.effect,W_exit,W_region,W_seq,W_block,W_cond,q62,q52,PCondW_dec,PGuardW_tt,PGuardW_ff,PGuardW_tf,PGuardW_ft,q37,q38,q39,pickV_true,q60,pickV_dec,KSeq_eq,q59,WL_eq,WO_nil,WO_none,WO_some,KPut_eq,KCall_eq,KRes_eq,KFalse,WS_call,WS_move,WS_pick,WS_alloc,WS_box,WS_build,q36,WS_load,WS_loadAgg,WS_store,q61,WS_bin,WS_eqB,WS_isNil,WS_eqCells,WS_un,WS_convInt,WS_mkFunc,WS_makeMap,q48,WS_slice,q50,WS_field,WS_fieldN,q49,q35,WS_index,WS_extract,WS_len,WS_append,WS_max,PPtr_ptr,PInt_int,PBool_bool,PSome_some,PAgg_agg,q51,q34,PSlice_nil,PLen_nil,PLen_slice,q63,put,tset,tget,ev,bnd,scrub,padTo,q42,ares,packRes,abin_add,abin_sub,abin_mul,abin_eql,abin_neq,abin_lss,abin_leq,abin_gtr,abin_geq,aun_not,maxV_two,List.length_cons,List.length_nil,List.replicate,List.cons_append,List.nil_append,List.append_nil,List.map_cons,List.map_nil,Nat.reduceAdd,Nat.reduceSub,ite_true,ite_false,if_true,if_false,Bool.false_eq_true,reduceIte,decide_true,decide_false,Bool.not_true,Bool.not_false,beq_self_eq_true,List.length_map,ne_eq,not_true_eq_false,not_false_eq_true,hlt]
  exact hq h1 hi (.refl w h1)
 ·refine(?_:∀(m k:Nat) (h':H),k+m=xs.length→Ov3 w h h'→Kp w h1 h'→W (lim tab) (.loop ?sc ?x) [.slice fl 1 b off xs.length,.junk,i64 k,.junk,.junk,.junk,.junk,.junk,.junk,.junk,.junk,.junk] h' ?q1 ?q2 ?q3) xs.length 0 h1 (by simp) hi (.refl w h1)
  intro m
  induction m with
  | zero=>
   intro k h' hk hv hkp
   rw[W_round]
   have hlt:¬(k:Int)<xs.length:=by omega
   simp only[W_skip,W_ret,W_regionD,WD_nil,WD_none,KPutD_eq,chkOk_nil,true_and,AO.effect,W_exit,W_region,W_seq,W_block,W_cond,q62,q52,PCondW_dec,PGuardW_tt,PGuardW_ff,PGuardW_tf,PGuardW_ft,q37,q38,q39,pickV_true,q60,pickV_dec,KSeq_eq,q59,WL_eq,WO_nil,WO_none,WO_some,KPut_eq,KCall_eq,KRes_eq,KFalse,WS_call,WS_move,WS_pick,WS_alloc,WS_box,WS_build,q36,WS_load,WS_loadAgg,WS_store,q61,WS_bin,WS_eqB,WS_isNil,WS_eqCells,WS_un,WS_convInt,WS_mkFunc,WS_makeMap,q48,WS_slice,q50,WS_field,WS_fieldN,q49,q35,WS_index,WS_extract,WS_len,WS_append,WS_max,PPtr_ptr,PInt_int,PBool_bool,PSome_some,PAgg_agg,q51,q34,PSlice_nil,PLen_nil,PLen_slice,q63,put,tset,tget,ev,bnd,scrub,padTo,q42,ares,packRes,abin_add,abin_sub,abin_mul,abin_eql,abin_neq,abin_lss,abin_leq,abin_gtr,abin_geq,aun_not,maxV_two,List.length_cons,List.length_nil,List.replicate,List.cons_append,List.nil_append,List.append_nil,List.map_cons,List.map_nil,Nat.reduceAdd,Nat.reduceSub,ite_true,ite_false,if_true,if_false,Bool.false_eq_true,reduceIte,decide_true,decide_false,Bool.not_true,Bool.not_false,beq_self_eq_true,List.length_map,ne_eq,not_true_eq_false,not_false_eq_true,hlt]
   exact hq h' hv hkp
  | succ m ih=>
   intro k h' hk hv hkp
   rw[W_round]
   have hlt:(k:Int)<xs.length:=by omega
   have h0:(0:Int)≤k:=by omega
   have hwr:=q27 (k:=k) (by omega)
   obtain⟨y,z,hy,hz,hrz⟩:=e4 k (by simp;omega)
   have hzi:∃n,z= .int .i64 n:=by
    rw[List.getElem?_map]at hy
    obtain⟨x,hx⟩:=some_of (xs:=xs) (k:=k) (by omega)
    rw[hx]at hy
    cases hy
    exact⟨x,rep_int hrz⟩
   obtain⟨nz,rfl⟩:=hzi
   obtain⟨h2,hp,hv2,hkp2⟩:=ov3_putN hw hv e1 e2 (p:=off+k) (xs:=[i64 (-77)]) (q15 hz) rfl (fun i hi=>by
    have:i=0:=by simpa using hi
    subst this
    exact⟨_,_,hz,rfl,.inr (.inl ⟨_,_,_,rfl,rfl⟩)⟩)
   simp only[W_skip,W_ret,W_regionD,WD_nil,WD_none,KPutD_eq,chkOk_nil,true_and,AO.effect,W_exit,W_region,W_seq,W_block,W_cond,q62,q52,PCondW_dec,PGuardW_tt,PGuardW_ff,PGuardW_tf,PGuardW_ft,q37,q38,q39,pickV_true,q60,pickV_dec,KSeq_eq,q59,WL_eq,WO_nil,WO_none,WO_some,KPut_eq,KCall_eq,KRes_eq,KFalse,WS_call,WS_move,WS_pick,WS_alloc,WS_box,WS_build,q36,WS_load,WS_loadAgg,WS_store,q61,WS_bin,WS_eqB,WS_isNil,WS_eqCells,WS_un,WS_convInt,WS_mkFunc,WS_makeMap,q48,WS_slice,q50,WS_field,WS_fieldN,q49,q35,WS_index,WS_extract,WS_len,WS_append,WS_max,PPtr_ptr,PInt_int,PBool_bool,PSome_some,PAgg_agg,q51,q34,PSlice_nil,PLen_nil,PLen_slice,q63,put,tset,tget,ev,bnd,scrub,padTo,q42,ares,packRes,abin_add,abin_sub,abin_mul,abin_eql,abin_neq,abin_lss,abin_leq,abin_gtr,abin_geq,aun_not,maxV_two,List.length_cons,List.length_nil,List.replicate,List.cons_append,List.nil_append,List.append_nil,List.map_cons,List.map_nil,Nat.reduceAdd,Nat.reduceSub,ite_true,ite_false,if_true,if_false,Bool.false_eq_true,reduceIte,decide_true,decide_false,Bool.not_true,Bool.not_false,beq_self_eq_true,List.length_map,ne_eq,not_true_eq_false,not_false_eq_true,pidx_slice,hlt,h0,true_and,and_self,Int.toNat_natCast,Nat.mul_one,AV.cells,hp,hwr]
   rw[W_scrub]
   simp only[hcs,scrub,tset]
   exact ih (k+1) h2 (by omega) hv2 (hkp.trans hkp2)
theorem overBools_3 {w:PWd} {h h1:H} (hw:∀b o,w.imm b=some o→b<h.next) {f:Bool} {xs:List Bool} {v:AV} (hr:RepV w (slB f true xs) v) (hm:xs.length<big) (hi:Ov3 w h h1) {Q:AV→H→Prop} (hq:∀h2,Ov3 w h h2→Kp w h1 h2→Q (.tuple []) h2):
  C (lim tab) 71 [v] h1 Q:=by
 have hcs:cS 17 [0,2]=[1,3,4,5,6,7,8,9,10,11,12,13,14,15,16]:=rfl
 rw[C_fn T.h71]
 simp only[af71,W_skip,W_ret,W_regionD,WD_nil,WD_none,KPutD_eq,chkOk_nil,true_and,AO.effect,W_exit,W_region,W_seq,W_block,W_cond,q62,q52,PCondW_dec,PGuardW_tt,PGuardW_ff,PGuardW_tf,PGuardW_ft,q37,q38,q39,pickV_true,q60,pickV_dec,KSeq_eq,q59,WL_eq,WO_nil,WO_none,WO_some,KPut_eq,KCall_eq,KRes_eq,KFalse,WS_call,WS_move,WS_pick,WS_alloc,WS_box,WS_build,q36,WS_load,WS_loadAgg,WS_store,q61,WS_bin,WS_eqB,WS_isNil,WS_eqCells,WS_un,WS_convInt,WS_mkFunc,WS_makeMap,q48,WS_slice,q50,WS_field,WS_fieldN,q49,q35,WS_index,WS_extract,WS_len,WS_append,WS_max,PPtr_ptr,PInt_int,PBool_bool,PSome_some,PAgg_agg,q51,q34,PSlice_nil,PLen_nil,PLen_slice,q63,put,tset,tget,ev,bnd,scrub,padTo,q42,ares,packRes,abin_add,abin_sub,abin_mul,abin_eql,abin_neq,abin_lss,abin_leq,abin_gtr,abin_geq,aun_not,maxV_two,List.length_cons,List.length_nil,List.replicate,List.cons_append,List.nil_append,List.append_nil,List.map_cons,List.map_nil,Nat.reduceAdd,Nat.reduceSub,ite_true,ite_false,if_true,if_false,Bool.false_eq_true,reduceIte,decide_true,decide_false,Bool.not_true,Bool.not_false,beq_self_eq_true,List.length_map,ne_eq,not_true_eq_false,not_false_eq_true]
 rw[W_scrub]
 simp only[hcs,scrub,tset]
 rcases ov_sl hr with⟨rfl,hx⟩ | ⟨fl,b,off,ver,bcs,rfl,e1,e2,e3,e4⟩
 ·rw[W_round]
  have hlt:¬(0:Int)<0:=by omega
  simp only[W_skip,W_ret,W_regionD,WD_nil,WD_none,KPutD_eq,chkOk_nil,true_and,AO.effect,W_exit,W_region,W_seq,W_block,W_cond,q62,q52,PCondW_dec,PGuardW_tt,PGuardW_ff,PGuardW_tf,PGuardW_ft,q37,q38,q39,pickV_true,q60,pickV_dec,KSeq_eq,q59,WL_eq,WO_nil,WO_none,WO_some,KPut_eq,KCall_eq,KRes_eq,KFalse,WS_call,WS_move,WS_pick,WS_alloc,WS_box,WS_build,q36,WS_load,WS_loadAgg,WS_store,q61,WS_bin,WS_eqB,WS_isNil,WS_eqCells,WS_un,WS_convInt,WS_mkFunc,WS_makeMap,q48,WS_slice,q50,WS_field,WS_fieldN,q49,q35,WS_index,WS_extract,WS_len,WS_append,WS_max,PPtr_ptr,PInt_int,PBool_bool,PSome_some,PAgg_agg,q51,q34,PSlice_nil,PLen_nil,PLen_slice,q63,put,tset,tget,ev,bnd,scrub,padTo,q42,ares,packRes,abin_add,abin_sub,abin_mul,abin_eql,abin_neq,abin_lss,abin_leq,abin_gtr,abin_geq,aun_not,maxV_two,List.length_cons,List.length_nil,List.replicate,List.cons_append,List.nil_append,List.append_nil,List.map_cons,List.map_nil,Nat.reduceAdd,Nat.reduceSub,ite_true,ite_false,if_true,if_false,Bool.false_eq_true,reduceIte,decide_true,decide_false,Bool.not_true,Bool.not_false,beq_self_eq_true,List.length_map,ne_eq,not_true_eq_false,not_false_eq_true,hlt]
  exact hq h1 hi (.refl w h1)
 ·refine(?_:∀(m k:Nat) (h':H),k+m=xs.length→Ov3 w h h'→Kp w h1 h'→W (lim tab) (.loop ?sc ?x) [.slice fl 1 b off xs.length,.junk,i64 k,.junk,.junk,.junk,.junk,.junk,.junk,.junk,.junk,.junk,.junk,.junk,.junk,.junk,.junk] h' ?q1 ?q2 ?q3) xs.length 0 h1 (by simp) hi (.refl w h1)
  intro m
  induction m with
  | zero=>
   intro k h' hk hv hkp
   rw[W_round]
   have hlt:¬(k:Int)<xs.length:=by omega
   simp only[W_skip,W_ret,W_regionD,WD_nil,WD_none,KPutD_eq,chkOk_nil,true_and,AO.effect,W_exit,W_region,W_seq,W_block,W_cond,q62,q52,PCondW_dec,PGuardW_tt,PGuardW_ff,PGuardW_tf,PGuardW_ft,q37,q38,q39,pickV_true,q60,pickV_dec,KSeq_eq,q59,WL_eq,WO_nil,WO_none,WO_some,KPut_eq,KCall_eq,KRes_eq,KFalse,WS_call,WS_move,WS_pick,WS_alloc,WS_box,WS_build,q36,WS_load,WS_loadAgg,WS_store,q61,WS_bin,WS_eqB,WS_isNil,WS_eqCells,WS_un,WS_convInt,WS_mkFunc,WS_makeMap,q48,WS_slice,q50,WS_field,WS_fieldN,q49,q35,WS_index,WS_extract,WS_len,WS_append,WS_max,PPtr_ptr,PInt_int,PBool_bool,PSome_some,PAgg_agg,q51,q34,PSlice_nil,PLen_nil,PLen_slice,q63,put,tset,tget,ev,bnd,scrub,padTo,q42,ares,packRes,abin_add,abin_sub,abin_mul,abin_eql,abin_neq,abin_lss,abin_leq,abin_gtr,abin_geq,aun_not,maxV_two,List.length_cons,List.length_nil,List.replicate,List.cons_append,List.nil_append,List.append_nil,List.map_cons,List.map_nil,Nat.reduceAdd,Nat.reduceSub,ite_true,ite_false,if_true,if_false,Bool.false_eq_true,reduceIte,decide_true,decide_false,Bool.not_true,Bool.not_false,beq_self_eq_true,List.length_map,ne_eq,not_true_eq_false,not_false_eq_true,hlt]
   exact hq h' hv hkp
  | succ m ih=>
   intro k h' hk hv hkp
   rw[W_round]
   have hlt:(k:Int)<xs.length:=by omega
   have h0:(0:Int)≤k:=by omega
   have hwr:=q27 (k:=k) (by omega)
   obtain⟨y,z,hy,hz,hrz⟩:=e4 k (by simp;omega)
   have hzb:∃bb,z= .bool bb:=by
    rw[List.getElem?_map]at hy
    obtain⟨x,hx⟩:=some_of (xs:=xs) (k:=k) (by omega)
    rw[hx]at hy
    cases hy
    exact⟨x,rep_bool hrz⟩
   obtain⟨bb,rfl⟩:=hzb
   obtain⟨v2,b2,q1,q2,q3⟩:=hv.cells b ver bcs e1 e2
   obtain⟨z',g1,g2⟩:=q3 _ _ hz
   have hz':∃b',z'= .bool b':=by
    rcases g2 with rfl | ⟨k,n,_,h,_⟩ | ⟨b,b',_,rfl⟩
    ·exact⟨bb,rfl⟩
    ·cases h
    ·exact⟨b',rfl⟩
   obtain⟨b',rfl⟩:=hz'
   have hgc:getCell h' b (off+k)=some (.bool b'):=by unfold getCell;rw[q1];exact g1
   obtain⟨h2,hp,hv2,hkp2⟩:=ov3_putN hw hv e1 e2 (p:=off+k) (xs:=[.bool !b']) (q15 hz) rfl (fun i hi=>by
    have:i=0:=by simpa using hi
    subst this
    exact⟨_,_,hz,rfl,.inr (.inr ⟨_,_,rfl,rfl⟩)⟩)
   simp only[W_skip,W_ret,W_regionD,WD_nil,WD_none,KPutD_eq,chkOk_nil,true_and,AO.effect,W_exit,W_region,W_seq,W_block,W_cond,q62,q52,PCondW_dec,PGuardW_tt,PGuardW_ff,PGuardW_tf,PGuardW_ft,q37,q38,q39,pickV_true,q60,pickV_dec,KSeq_eq,q59,WL_eq,WO_nil,WO_none,WO_some,KPut_eq,KCall_eq,KRes_eq,KFalse,WS_call,WS_move,WS_pick,WS_alloc,WS_box,WS_build,q36,WS_load,WS_loadAgg,WS_store,q61,WS_bin,WS_eqB,WS_isNil,WS_eqCells,WS_un,WS_convInt,WS_mkFunc,WS_makeMap,q48,WS_slice,q50,WS_field,WS_fieldN,q49,q35,WS_index,WS_extract,WS_len,WS_append,WS_max,PPtr_ptr,PInt_int,PBool_bool,PSome_some,PAgg_agg,q51,q34,PSlice_nil,PLen_nil,PLen_slice,q63,put,tset,tget,ev,bnd,scrub,padTo,q42,ares,packRes,abin_add,abin_sub,abin_mul,abin_eql,abin_neq,abin_lss,abin_leq,abin_gtr,abin_geq,aun_not,maxV_two,List.length_cons,List.length_nil,List.replicate,List.cons_append,List.nil_append,List.append_nil,List.map_cons,List.map_nil,Nat.reduceAdd,Nat.reduceSub,ite_true,ite_false,if_true,if_false,Bool.false_eq_true,reduceIte,decide_true,decide_false,Bool.not_true,Bool.not_false,beq_self_eq_true,List.length_map,ne_eq,not_true_eq_false,not_false_eq_true,pidx_slice,hlt,h0,true_and,and_self,Int.toNat_natCast,Nat.mul_one,AV.cells,hgc,hp,hwr]
   rw[W_scrub]
   simp only[hcs,scrub,tset]
   exact ih (k+1) h2 (by omega) hv2 (hkp.trans hkp2)
end
section
variable {tab:FuncId→Option AF}
def Over3 (tab:FuncId→Option AF) (g:FuncId) (pargs:List PV):Prop:=
 ∀(w:PWd) (h h1:H) (args':List AV),(∀b o,w.imm b=some o→b<h.next)→RepL w pargs args'→Ov3 w h h1→C (lim tab) g args' h1 fun _ h2=>Ov3 w h h2∧Kp w h1 h2
def OvX (tab:FuncId→Option AF) (c:AC) (a:List PV) (M:Mem) (Q:List PV→Mem→Prop):Prop:=
 ∀(w:PWd) (h h1:H) (a':List AV),PSt w h M→RepL w a a'→Ov3 w h h1→W (lim tab) c a' h1 (fun a2 h2=>∃b,RepL w b a2∧Ov3 w h h2∧Q b M) (fun _ _=>False) (fun _ _ _=>False)
variable {a:List PV} {M:Mem}
theorem TopX_ov {c:AC} {Qn Qr:List PV→Mem→Prop} {Qe:Nat→List PV→Mem→Prop} (h:OvX tab c a M fun b N=>Qn (jnkL b) (N.map (PObj.mapC jnkL))):TopX tab c a M Qn Qr Qe:=by
 intro w hh a' s ha
 refine W_mono (h w hh hh a' s ha (.refl s.imm)) (fun a2 h2 ⟨b,r,o,q⟩=>?_) (fun _ _ q=>q.elim) (fun _ _ _ q=>q.elim)
 obtain⟨w2,s2,rl⟩:=s.ov2 o.two
 exact⟨w2,_,_,s2,rl _ _ r,q⟩
theorem OvX_seq {x y:AC} {Q:List PV→Mem→Prop} (h:OvX tab x a M fun b N=>OvX tab y b N Q):OvX tab (.seq x y) a M Q:=by
 intro w hh h1 a' s ha hv
 rw[W_seq]
 refine W_mono (h w hh h1 a' s ha hv) (fun a1 h2 ⟨b,r,o,q⟩=>?_) (fun _ _ q=>q.elim) (fun _ _ _ q=>q.elim)
 rw[KSeq_eq]
 exact q w hh h2 a1 s r o
theorem OvX_agg {g:FuncId} {Q:List PV→Mem→Prop} {d1:Nat} {d2:Option Nat} {n p:Nat} {c1 c2:List Nat} {id gg o ver:Nat} {cs:List PV}
  (hp:ptget a p= .ptr id gg o) (hM:M[id]? =some (.cells gg ver cs)) (hn:o+n≤cs.length) (hd:ptget (ptset a d1 (.agg (psub cs o n))) d1= .agg (psub cs o n)) (ho:Over3 tab g [.agg (psub cs o n)])
  (hq:Q (pput (ptset a d1 Zj) d2 Zj) M):
  OvX tab (.region [⟨some d1,.loadAgg n (.tmp p),none,c1⟩,⟨d2,.call (.const (.func (.func g) [] [])) [.tmp d1],none,c2⟩]) a M Q:=by
 intro w hh h1 a' s ha hv
 rw[W_region,WO_none,WS_loadAgg]
 have hx:=ha.tget p
 rw[hp]at hx
 obtain⟨e,b,bcs,e1,e2,e3,e4,e5,e6,e7⟩:=s.ptrAt hM hx
 have hev:ev a' (.tmp p)= .ptr b o:=e1
 have hsub:=rep_sub e6 o n
 have hgc:q41 h1 b o n=some ((bcs.drop o).take n):=by
  unfold q41
  rw[hv.keep b (e7.next s) (.inr (s.sep id b e7).1),e5]
  simp only
  rw[if_pos (by rw[←e6.len];exact hn)]
 rw[hev,PPtr_ptr,hgc,PSome_some,KPut_eq,WO_none,WS_call]
 have hf:ev (put a' (some d1) (.agg ((bcs.drop o).take n))) (.const (.func (.func g) [] []))= .func (.func g) [] []:=rfl
 rw[hf,q63]
 have hagg:RepV w (.agg (psub cs o n)) (.agg ((bcs.drop o).take n)):= .agg hsub.len hsub.get
 have ha1:=ha.tset d1 hagg
 have harg:RepL w [.agg (psub cs o n)] ([]++List.map (ev (put a' (some d1) (.agg ((bcs.drop o).take n)))) [.tmp d1]++[]):=by
  have h1:=ha1.tget d1
  rw[hd]at h1
  exact .cons h1 (.nil w)
 refine C_mono (ho w hh h1 _ (fun b o hb=>s.immLt hb) harg hv) ?_
 rintro v h2 ⟨hv2,_⟩
 rw[KCall_eq,KPut_eq,WO_nil]
 exact⟨_,(ha.tset d1 (v:=Zj) (x:= .agg ((bcs.drop o).take n)) (.junk _)).put d2 (.junk _),hv2,hq⟩
theorem OvX_mv {g:FuncId} {Q:List PV→Mem→Prop} {d1:Nat} {d2:Option Nat} {p:Nat} {v:PV} {c1 c2:List Nat}
  (hp:ptget a p=v) (hd:ptget (ptset a d1 v) d1=v) (ho:Over3 tab g [v]) (hq:Q (pput (ptset a d1 Zj) d2 Zj) M):
  OvX tab (.region [⟨some d1,.move (.tmp p),none,c1⟩,⟨d2,.call (.const (.func (.func g) [] [])) [.tmp d1],none,c2⟩]) a M Q:=by
 intro w hh h1 a' s ha hv
 rw[W_region,WO_none,WS_move,KPut_eq,WO_none,WS_call]
 have hx:=ha.tget p
 rw[hp]at hx
 have hf:ev (put a' (some d1) (ev a' (.tmp p))) (.const (.func (.func g) [] []))= .func (.func g) [] []:=rfl
 rw[hf,q63]
 have ha1:=ha.tset d1 hx
 have harg:RepL w [v] ([]++List.map (ev (put a' (some d1) (ev a' (.tmp p)))) [.tmp d1]++[]):=by
  have h1:=ha1.tget d1
  rw[hd]at h1
  exact .cons h1 (.nil w)
 refine C_mono (ho w hh h1 _ (fun b o hb=>s.immLt hb) harg hv) ?_
 rintro v2 h2 ⟨hv2,_⟩
 rw[KCall_eq,KPut_eq,WO_nil]
 exact⟨_,(ha.tset d1 (v:=Zj) (x:=ev a' (.tmp p)) (.junk _)).put d2 (.junk _),hv2,hq⟩
end
section
variable {tab:FuncId→Option AF} (T:HasA tab)
include T
theorem overRows_3 {w:PWd} {h h1:H} (hw:∀b o,w.imm b=some o→b<h.next) {f f2:Bool} {rs:List (List Int)} {v:AV} (hr:RepV w (slR f true f2 true .i64 rs) v) (hm:rs.length<big) (hm2:∀r∈rs,r.length<big) (hi:Ov3 w h h1) {Q:AV→H→Prop} (hq:∀h2,Ov3 w h h2→Kp w h1 h2→Q (.tuple []) h2):
  C (lim tab) 33 [v] h1 Q:=by
 have hcs:cS 14 [0,2]=[1,3,4,5,6,7,8,9,10,11,12,13]:=rfl
 rw[C_fn T.h33]
 simp only[af33,W_skip,W_ret,W_regionD,WD_nil,WD_none,KPutD_eq,chkOk_nil,true_and,AO.effect,W_exit,W_region,W_seq,W_block,W_cond,q62,q52,PCondW_dec,PGuardW_tt,PGuardW_ff,PGuardW_tf,PGuardW_ft,q37,q38,q39,pickV_true,q60,pickV_dec,KSeq_eq,q59,WL_eq,WO_nil,WO_none,WO_some,KPut_eq,KCall_eq,KRes_eq,KFalse,WS_call,WS_move,WS_pick,WS_alloc,WS_box,WS_build,q36,WS_load,WS_loadAgg,WS_store,q61,WS_bin,WS_eqB,WS_isNil,WS_eqCells,WS_un,WS_convInt,WS_mkFunc,WS_makeMap,q48,WS_slice,q50,WS_field,WS_fieldN,q49,q35,WS_index,WS_extract,WS_len,WS_append,WS_max,PPtr_ptr,PInt_int,PBool_bool,PSome_some,PAgg_agg,q51,q34,PSlice_nil,PLen_nil,PLen_slice,q63,put,tset,tget,ev,bnd,scrub,padTo,q42,ares,packRes,abin_add,abin_sub,abin_mul,abin_eql,abin_neq,abin_lss,abin_leq,abin_gtr,abin_geq,aun_not,maxV_two,List.length_cons,List.length_nil,List.replicate,List.cons_append,List.nil_append,List.append_nil,List.map_cons,List.map_nil,Nat.reduceAdd,Nat.reduceSub,ite_true,ite_false,if_true,if_false,Bool.false_eq_true,reduceIte,decide_true,decide_false,Bool.not_true,Bool.not_false,beq_self_eq_true,List.length_map,ne_eq,not_true_eq_false,not_false_eq_true]
 rw[W_scrub]
 simp only[hcs,scrub,tset]
 rcases ov_sl hr with⟨rfl,hx⟩ | ⟨fl,b,off,ver,bcs,rfl,e1,e2,e3,e4⟩
 ·rw[W_round]
  have hlt:¬(0:Int)<0:=by omega
  simp only[W_skip,W_ret,W_regionD,WD_nil,WD_none,KPutD_eq,chkOk_nil,true_and,AO.effect,W_exit,W_region,W_seq,W_block,W_cond,q62,q52,PCondW_dec,PGuardW_tt,PGuardW_ff,PGuardW_tf,PGuardW_ft,q37,q38,q39,pickV_true,q60,pickV_dec,KSeq_eq,q59,WL_eq,WO_nil,WO_none,WO_some,KPut_eq,KCall_eq,KRes_eq,KFalse,WS_call,WS_move,WS_pick,WS_alloc,WS_box,WS_build,q36,WS_load,WS_loadAgg,WS_store,q61,WS_bin,WS_eqB,WS_isNil,WS_eqCells,WS_un,WS_convInt,WS_mkFunc,WS_makeMap,q48,WS_slice,q50,WS_field,WS_fieldN,q49,q35,WS_index,WS_extract,WS_len,WS_append,WS_max,PPtr_ptr,PInt_int,PBool_bool,PSome_some,PAgg_agg,q51,q34,PSlice_nil,PLen_nil,PLen_slice,q63,put,tset,tget,ev,bnd,scrub,padTo,q42,ares,packRes,abin_add,abin_sub,abin_mul,abin_eql,abin_neq,abin_lss,abin_leq,abin_gtr,abin_geq,aun_not,maxV_two,List.length_cons,List.length_nil,List.replicate,List.cons_append,List.nil_append,List.append_nil,List.map_cons,List.map_nil,Nat.reduceAdd,Nat.reduceSub,ite_true,ite_false,if_true,if_false,Bool.false_eq_true,reduceIte,decide_true,decide_false,Bool.not_true,Bool.not_false,beq_self_eq_true,List.length_map,ne_eq,not_true_eq_false,not_false_eq_true,hlt]
  exact hq h1 hi (.refl w h1)
 ·refine(?_:∀(m k:Nat) (h':H),k+m=rs.length→Ov3 w h h'→Kp w h1 h'→W (lim tab) (.loop ?sc ?x) [.slice fl 1 b off rs.length,.junk,i64 k,.junk,.junk,.junk,.junk,.junk,.junk,.junk,.junk,.junk,.junk,.junk] h' ?q1 ?q2 ?q3) rs.length 0 h1 (by simp) hi (.refl w h1)
  intro m
  induction m with
  | zero=>
   intro k h' hk hv hkp
   rw[W_round]
   have hlt:¬(k:Int)<rs.length:=by omega
   simp only[W_skip,W_ret,W_regionD,WD_nil,WD_none,KPutD_eq,chkOk_nil,true_and,AO.effect,W_exit,W_region,W_seq,W_block,W_cond,q62,q52,PCondW_dec,PGuardW_tt,PGuardW_ff,PGuardW_tf,PGuardW_ft,q37,q38,q39,pickV_true,q60,pickV_dec,KSeq_eq,q59,WL_eq,WO_nil,WO_none,WO_some,KPut_eq,KCall_eq,KRes_eq,KFalse,WS_call,WS_move,WS_pick,WS_alloc,WS_box,WS_build,q36,WS_load,WS_loadAgg,WS_store,q61,WS_bin,WS_eqB,WS_isNil,WS_eqCells,WS_un,WS_convInt,WS_mkFunc,WS_makeMap,q48,WS_slice,q50,WS_field,WS_fieldN,q49,q35,WS_index,WS_extract,WS_len,WS_append,WS_max,PPtr_ptr,PInt_int,PBool_bool,PSome_some,PAgg_agg,q51,q34,PSlice_nil,PLen_nil,PLen_slice,q63,put,tset,tget,ev,bnd,scrub,padTo,q42,ares,packRes,abin_add,abin_sub,abin_mul,abin_eql,abin_neq,abin_lss,abin_leq,abin_gtr,abin_geq,aun_not,maxV_two,List.length_cons,List.length_nil,List.replicate,List.cons_append,List.nil_append,List.append_nil,List.map_cons,List.map_nil,Nat.reduceAdd,Nat.reduceSub,ite_true,ite_false,if_true,if_false,Bool.false_eq_true,reduceIte,decide_true,decide_false,Bool.not_true,Bool.not_false,beq_self_eq_true,List.length_map,ne_eq,not_true_eq_false,not_false_eq_true,hlt]
   exact hq h' hv hkp
  | succ m ih=>
   intro k h' hk hv hkp
   rw[W_round]
   have hlt:(k:Int)<rs.length:=by omega
   have h0:(0:Int)≤k:=by omega
   have hwr:=q27 (k:=k) (by omega)
   obtain⟨y,z,hy,hz,hrz⟩:=e4 k (by simp;omega)
   obtain⟨row,hrw⟩:=some_of (xs:=rs) (k:=k) (by omega)
   rw[List.getElem?_map,hrw]at hy
   cases hy
   obtain⟨v2,b2,o1,o2,o3⟩:=hv.cells b ver bcs e1 e2
   obtain⟨z',g1,g2⟩:=o3 _ _ hz
   have hz':z'=z:=by
    have hs:=rep_slq hrz rfl
    rcases g2 with h | ⟨k,n,_,h,_⟩ | ⟨b,b',h,_⟩
    ·exact h
    ·exact absurd h (hs.1 k n)
    ·exact absurd h (hs.2 b)
   subst hz'
   have hgc:getCell h' b (off+k)=some z':=by unfold getCell;rw[o1];exact g1
   simp only[W_skip,W_ret,W_regionD,WD_nil,WD_none,KPutD_eq,chkOk_nil,true_and,AO.effect,W_exit,W_region,W_seq,W_block,W_cond,q62,q52,PCondW_dec,PGuardW_tt,PGuardW_ff,PGuardW_tf,PGuardW_ft,q37,q38,q39,pickV_true,q60,pickV_dec,KSeq_eq,q59,WL_eq,WO_nil,WO_none,WO_some,KPut_eq,KCall_eq,KRes_eq,KFalse,WS_call,WS_move,WS_pick,WS_alloc,WS_box,WS_build,q36,WS_load,WS_loadAgg,WS_store,q61,WS_bin,WS_eqB,WS_isNil,WS_eqCells,WS_un,WS_convInt,WS_mkFunc,WS_makeMap,q48,WS_slice,q50,WS_field,WS_fieldN,q49,q35,WS_index,WS_extract,WS_len,WS_append,WS_max,PPtr_ptr,PInt_int,PBool_bool,PSome_some,PAgg_agg,q51,q34,PSlice_nil,PLen_nil,PLen_slice,q63,put,tset,tget,ev,bnd,scrub,padTo,q42,ares,packRes,abin_add,abin_sub,abin_mul,abin_eql,abin_neq,abin_lss,abin_leq,abin_gtr,abin_geq,aun_not,maxV_two,List.length_cons,List.length_nil,List.replicate,List.cons_append,List.nil_append,List.append_nil,List.map_cons,List.map_nil,Nat.reduceAdd,Nat.reduceSub,ite_true,ite_false,if_true,if_false,Bool.false_eq_true,reduceIte,decide_true,decide_false,Bool.not_true,Bool.not_false,beq_self_eq_true,List.length_map,ne_eq,not_true_eq_false,not_false_eq_true,pidx_slice,hlt,h0,true_and,and_self,Int.toNat_natCast,Nat.mul_one,hgc]
   refine overInts_3 T hw hrz (hm2 row (List.mem_of_getElem? hrw)) hv fun h2 hv2 k2=>?_
   simp only[W_skip,W_ret,W_regionD,WD_nil,WD_none,KPutD_eq,chkOk_nil,true_and,AO.effect,W_exit,W_region,W_seq,W_block,W_cond,q62,q52,PCondW_dec,PGuardW_tt,PGuardW_ff,PGuardW_tf,PGuardW_ft,q37,q38,q39,pickV_true,q60,pickV_dec,KSeq_eq,q59,WL_eq,WO_nil,WO_none,WO_some,KPut_eq,KCall_eq,KRes_eq,KFalse,WS_call,WS_move,WS_pick,WS_alloc,WS_box,WS_build,q36,WS_load,WS_loadAgg,WS_store,q61,WS_bin,WS_eqB,WS_isNil,WS_eqCells,WS_un,WS_convInt,WS_mkFunc,WS_makeMap,q48,WS_slice,q50,WS_field,WS_fieldN,q49,q35,WS_index,WS_extract,WS_len,WS_append,WS_max,PPtr_ptr,PInt_int,PBool_bool,PSome_some,PAgg_agg,q51,q34,PSlice_nil,PLen_nil,PLen_slice,q63,put,tset,tget,ev,bnd,scrub,padTo,q42,ares,packRes,abin_add,abin_sub,abin_mul,abin_eql,abin_neq,abin_lss,abin_leq,abin_gtr,abin_geq,aun_not,maxV_two,List.length_cons,List.length_nil,List.replicate,List.cons_append,List.nil_append,List.append_nil,List.map_cons,List.map_nil,Nat.reduceAdd,Nat.reduceSub,ite_true,ite_false,if_true,if_false,Bool.false_eq_true,reduceIte,decide_true,decide_false,Bool.not_true,Bool.not_false,beq_self_eq_true,List.length_map,ne_eq,not_true_eq_false,not_false_eq_true,hwr]
   rw[W_scrub]
   simp only[hcs,scrub,tset]
   exact ih (k+1) h2 (by omega) hv2 (hkp.trans k2)
theorem overDFA_3 {w:PWd} {h h1:H} (hw:∀b o,w.imm b=some o→b<h.next) {f1 f2 f3:Bool} {D:DF} (B:BnD D) {cs':List AV} (hc:RepL w (dfC f1 true f2 true f3 true D) cs') (hv:Ov3 w h h1) {Q:AV→H→Prop} (hq:∀h2,Ov3 w h h2→Kp w h1 h2→Q (.tuple []) h2):
  C (lim tab) 32 [.agg cs'] h1 Q:=by
 match cs',hc with
 | [v1,v2,v3,v4],hc=>
 have r1:=hc.hd
 have r2:=hc.tl.hd
 have r3:=hc.tl.tl.hd
 have r4:=hc.tl.tl.tl.hd
 have o1:v1.one=true:=rep_one r1 rfl
 have o2:v2.one=true:=rep_one r2 rfl
 have o3:v3.one=true:=rep_one r3 rfl
 have o4:v4.one=true:=rep_one r4 rfl
 have hone:[v1,v2,v3,v4].all AV.one=true:=by simp[o1,o2,o3,o4]
 rw[C_fn T.h32]
 have w1:=hv.alloc hw (.cells 0 true [v1,v2,v3,v4])
 have hnone:w.imm h1.next=none:=by
  cases hc:w.imm h1.next with
  | none=>rfl
  | some o=>have:=hw _ _ hc;have:=hv.next;omega
 have hbox:∀{h':H},Kp w (h1.alloc (.cells 0 true [v1,v2,v3,v4])) h'→∀i,getCell h' h1.next i=[v1,v2,v3,v4][i]? :=by
  intro h' hk i
  unfold getCell
  rw[hk.keep h1.next (by simp) (.inr hnone),H.get_alloc_new]
 have b1:=hbox (.refl w _)
 simp only[af32,W_skip,W_ret,W_regionD,WD_nil,WD_none,KPutD_eq,chkOk_nil,true_and,AO.effect,W_exit,W_region,W_seq,W_block,W_cond,q62,q52,PCondW_dec,PGuardW_tt,PGuardW_ff,PGuardW_tf,PGuardW_ft,q37,q38,q39,pickV_true,q60,pickV_dec,KSeq_eq,q59,WL_eq,WO_nil,WO_none,WO_some,KPut_eq,KCall_eq,KRes_eq,KFalse,WS_call,WS_move,WS_pick,WS_alloc,WS_box,WS_build,q36,WS_load,WS_loadAgg,WS_store,q61,WS_bin,WS_eqB,WS_isNil,WS_eqCells,WS_un,WS_convInt,WS_mkFunc,WS_makeMap,q48,WS_slice,q50,WS_field,WS_fieldN,q49,q35,WS_index,WS_extract,WS_len,WS_append,WS_max,PPtr_ptr,PInt_int,PBool_bool,PSome_some,PAgg_agg,q51,q34,PSlice_nil,PLen_nil,PLen_slice,q63,put,tset,tget,ev,bnd,scrub,padTo,q42,ares,packRes,abin_add,abin_sub,abin_mul,abin_eql,abin_neq,abin_lss,abin_leq,abin_gtr,abin_geq,aun_not,maxV_two,List.length_cons,List.length_nil,List.replicate,List.cons_append,List.nil_append,List.append_nil,List.map_cons,List.map_nil,Nat.reduceAdd,Nat.reduceSub,ite_true,ite_false,if_true,if_false,Bool.false_eq_true,reduceIte,decide_true,decide_false,Bool.not_true,Bool.not_false,beq_self_eq_true,List.length_map,ne_eq,not_true_eq_false,not_false_eq_true,AV.cells,hone,b1,List.getElem?_cons_zero,List.getElem?_cons_succ]
 refine overRows_3 T hw r3 B.n B.r w1 fun h2 v2' k2=>?_
 have b2:=hbox k2
 simp only[W_skip,W_ret,W_regionD,WD_nil,WD_none,KPutD_eq,chkOk_nil,true_and,AO.effect,W_exit,W_region,W_seq,W_block,W_cond,q62,q52,PCondW_dec,PGuardW_tt,PGuardW_ff,PGuardW_tf,PGuardW_ft,q37,q38,q39,pickV_true,q60,pickV_dec,KSeq_eq,q59,WL_eq,WO_nil,WO_none,WO_some,KPut_eq,KCall_eq,KRes_eq,KFalse,WS_call,WS_move,WS_pick,WS_alloc,WS_box,WS_build,q36,WS_load,WS_loadAgg,WS_store,q61,WS_bin,WS_eqB,WS_isNil,WS_eqCells,WS_un,WS_convInt,WS_mkFunc,WS_makeMap,q48,WS_slice,q50,WS_field,WS_fieldN,q49,q35,WS_index,WS_extract,WS_len,WS_append,WS_max,PPtr_ptr,PInt_int,PBool_bool,PSome_some,PAgg_agg,q51,q34,PSlice_nil,PLen_nil,PLen_slice,q63,put,tset,tget,ev,bnd,scrub,padTo,q42,ares,packRes,abin_add,abin_sub,abin_mul,abin_eql,abin_neq,abin_lss,abin_leq,abin_gtr,abin_geq,aun_not,maxV_two,List.length_cons,List.length_nil,List.replicate,List.cons_append,List.nil_append,List.append_nil,List.map_cons,List.map_nil,Nat.reduceAdd,Nat.reduceSub,ite_true,ite_false,if_true,if_false,Bool.false_eq_true,reduceIte,decide_true,decide_false,Bool.not_true,Bool.not_false,beq_self_eq_true,List.length_map,ne_eq,not_true_eq_false,not_false_eq_true,b2,List.getElem?_cons_zero,List.getElem?_cons_succ]
 refine overBools_3 T hw r4 B.f v2' fun h3 v3' k3=>?_
 simp only[W_skip,W_ret,W_regionD,WD_nil,WD_none,KPutD_eq,chkOk_nil,true_and,AO.effect,W_exit,W_region,W_seq,W_block,W_cond,q62,q52,PCondW_dec,PGuardW_tt,PGuardW_ff,PGuardW_tf,PGuardW_ft,q37,q38,q39,pickV_true,q60,pickV_dec,KSeq_eq,q59,WL_eq,WO_nil,WO_none,WO_some,KPut_eq,KCall_eq,KRes_eq,KFalse,WS_call,WS_move,WS_pick,WS_alloc,WS_box,WS_build,q36,WS_load,WS_loadAgg,WS_store,q61,WS_bin,WS_eqB,WS_isNil,WS_eqCells,WS_un,WS_convInt,WS_mkFunc,WS_makeMap,q48,WS_slice,q50,WS_field,WS_fieldN,q49,q35,WS_index,WS_extract,WS_len,WS_append,WS_max,PPtr_ptr,PInt_int,PBool_bool,PSome_some,PAgg_agg,q51,q34,PSlice_nil,PLen_nil,PLen_slice,q63,put,tset,tget,ev,bnd,scrub,padTo,q42,ares,packRes,abin_add,abin_sub,abin_mul,abin_eql,abin_neq,abin_lss,abin_leq,abin_gtr,abin_geq,aun_not,maxV_two,List.length_cons,List.length_nil,List.replicate,List.cons_append,List.nil_append,List.append_nil,List.map_cons,List.map_nil,Nat.reduceAdd,Nat.reduceSub,ite_true,ite_false,if_true,if_false,Bool.false_eq_true,reduceIte,decide_true,decide_false,Bool.not_true,Bool.not_false,beq_self_eq_true,List.length_map,ne_eq,not_true_eq_false,not_false_eq_true]
 exact hq _ v3' ((Kp.alloc w h1 _).trans (k2.trans k3))
theorem over3_rows {f f2:Bool} {rs:List (List Int)} (hm:rs.length<big) (hm2:∀r∈rs,r.length<big):Over3 tab 33 [slR f true f2 true .i64 rs]:=fun w h h1 args' hb hr hv=>by
 match args',hr with
 | [v],hr=>exact overRows_3 T hb hr.hd hm hm2 hv fun h2 a b=>⟨a,b⟩
theorem over3_dfa {f1 f2 f3:Bool} {D:DF} (B:BnD D):Over3 tab 32 [.agg (dfC f1 true f2 true f3 true D)]:=fun w h h1 args' hb hr hv=>by
 match args',hr with
 | [v],hr=>
  obtain⟨cs',rfl,h2⟩:=rep_agg hr.hd
  exact overDFA_3 T hb B h2 hv fun h2 a b=>⟨a,b⟩
end
open Go.Am renaming pchk→P1,pold→P2,PKNo→P3,ppack→P4,PObj.under→P5,pput→P6,ptset→P7,ptget→P8,pev→P9,ofAV→P10,q65→P11,ppad→P12,pfill→P13,prepl→P14,AO.effect→P15
open List renaming replicate→L1
open Nat renaming reduceAdd→N1,reduceSub→N2,reduceMul→N3,reduceLT→N4,reduceLeDiff→N5,reduceEqDiff→N6,reduceBEq→N7
open Int renaming reduceToNat→I1,reduceLT→I2,reduceLE→I3,reduceEq→I4,reduceAdd→I5,reduceSub→I6,reduceNeg→I7
section
variable {tab:FuncId→Option AF} (T:HasA tab)
include T
end
section
variable {tab:FuncId→Option AF} (T:HasA tab)
include T
end
section
variable {tab:FuncId→Option AF} (T:HasA tab)
include T
end
section
variable {N:NF} {rs:List (List Bool)} {l:List Int} {m:Nat}
end
section
variable {tab:FuncId→Option AF} (T:HasA tab)
include T
end
section
variable {tab:FuncId→Option AF}
variable (T:HasA tab)
include T
end
theorem jnkL_ints (k:IntKind) (xs:List Int):jnkL (xs.map (PV.int k))=xs.map (PV.int k):=by
 rw[jnkL_map,List.map_map];exact List.map_congr_left fun x _=>by simp[PV.jnk]
theorem jnkL_bools (xs:List Bool):jnkL (xs.map PV.bool)=xs.map PV.bool:=by
 rw[jnkL_map,List.map_map];exact List.map_congr_left fun x _=>by simp[PV.jnk]
theorem jnk_old (sz n:Nat) (cs:List PV):PV.jnk (.sl false false sz n cs)= .sl false false sz n (jnkL cs):=by simp[PV.jnk]
theorem egL_of {f:PV→PV} (hf:∀k n,f (.int k n)= .int k n) (es:List Eg):(egL es).map f=egL es:=by
 unfold egL
 induction es with
 | nil=>rfl
 | cons e es ih=>rw[List.flatMap_cons,List.map_append,ih];simp[hf]
theorem jnkL_egL (es:List Eg):jnkL (egL es)=egL es:=by rw[jnkL_map];exact egL_of (fun k n=>by simp[PV.jnk]) es
theorem ageL_egL (es:List Eg):ageL (egL es)=egL es:=by rw[ageL_map];exact egL_of (fun k n=>by simp[PV.age]) es
theorem age_sl (f o:Bool) (sz n:Nat) (cs:List PV):PV.age (.sl f o sz n cs)= .sl false false sz n (ageL cs):=by simp[PV.age]
theorem jnkL_nf (N:NF):jnkL (nfF N)=nfF N:=by
 simp only[jnkL,jnk_old,jnkL_ints,jnkL_egL,show ∀k n,PV.jnk (.int k n)= .int k n from fun k n=>by simp[PV.jnk],slI,slE]
theorem ageL_nf (f1 o1 f2 o2 f3 o3:Bool) (N:NF):ageL (nfC f1 o1 f2 o2 f3 o3 N)=nfF N:=by
 simp only[ageL,age_sl,ageL_ints,ageL_egL,PV.age,slI,slE]
theorem TopX_mono {tab:FuncId→Option AF} {c:AC} {a:List PV} {M:Mem} {Qn Qn' Qr:List PV→Mem→Prop} {Qe:Nat→List PV→Mem→Prop} (h:TopX tab c a M Qn' Qr Qe) (hq:∀b N,Qn' b N→Qn b N):TopX tab c a M Qn Qr Qe:=
 fun w hh a' s ha=>W_mono (h w hh a' s ha) (fun _ _ ⟨w1,b,N,s1,r1,q⟩=>⟨w1,b,N,s1,r1,hq _ _ q⟩) (fun _ _ q=>q) (fun _ _ _ q=>q)
section
variable {tab:FuncId→Option AF} (T:HasA tab)
include T
end
end Go.Am.Ar

