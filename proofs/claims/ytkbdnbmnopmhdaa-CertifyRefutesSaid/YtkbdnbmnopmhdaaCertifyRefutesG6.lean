/- The law that refutations refute. -/
import Derived.Test.YtkbdnbmnopmhdaaCertifyRefutesG5
set_option linter.unusedVariables false
set_option linter.unusedSimpArgs false
set_option maxRecDepth 10000
namespace Go.Am.Ar
open Go.Am renaming pchk → P1, pold → P2, PKNo → P3, ppack → P4, PObj.under → P5, pput → P6, ptset → P7, ptget → P8, pev → P9, ofAV → P10, ofAV1 → P11, ppad → P12, pfill → P13, prepl → P14, AO.effect → P15
open List renaming replicate → L1
open Nat renaming reduceAdd → N1, reduceSub → N2, reduceMul → N3, reduceLT → N4, reduceLeDiff → N5, reduceEqDiff → N6, reduceBEq → N7
open Int renaming reduceToNat → I1, reduceLT → I2, reduceLE → I3, reduceEq → I4, reduceAdd → I5, reduceSub → I6, reduceNeg → I7
theorem checkLoop_14 {ow pr : List Int} : ∀ {su : List (List Int)} {k : Nat}, ¬ checkLoop ow pr k su = 14
  | [], k => by intro h; cases h
  | r :: su, k => by
    rw [checkLoop_cons]
    split
    · exact checkLoop_14
    · unfold codeAt
      repeat' split
      all_goals decide
theorem checkM_14 {ow pr : List Int} {su : List (List Int)} : ¬ checkM ow pr su = 14 := by
  unfold checkM
  repeat' split
  all_goals first | decide | exact checkLoop_14
theorem FormE.ne14 {ow pr ws ss : List Int} {su : List (List Int)} {e : Int} (h : FormE ow pr su ws ss e) : ¬ e = 14 := by
  rcases h with ⟨_, rfl⟩ | ⟨_, _, rfl⟩ | ⟨_, _, v, _, _, ⟨_, rfl⟩ | ⟨_, _, rfl⟩⟩ | ⟨_, rfl⟩
  · exact checkM_14
  all_goals decide
section
variable {tab : FuncId → Option AF} (T : HasA tab)
include T
theorem overNil_ok : OverOk tab 13 [.nils] := fun w h h1 args' hb hr hv =>
  overInts_ok T (f := true) (xs := []) (by show 0 < 1000000000000; omega) w h h1 args' hb (by
    match args', hr with
    | [a], hr => exact .cons (PvWk.nils true true 1 w a hr.hd) (.nil w)
    | [], hr => exact absurd hr.len (by simp)
    | _ :: _ :: _, hr => exact absurd hr.len (by simp)) hv
theorem refutesN_p {M : Mem} {K : PV → Mem → Prop} {f1 o1 f2 o2 f3 o3 f4 o4 f5 o5 f6 o6 f8 o8 : Bool} {ow pr ws ss : List Int} {su : List (List Int)} {p : Int} {lc : List Nat} {w : Nat} (B : Bnd ow pr su) (F : FormP ow pr su ws ss) (hp : p = 0 ∨ p = 1)
    (R : RefL ow pr su ws ss p [] w lc) (hk : K (.bool true) M) :
    SemC tab 12 [gmP f1 o1 f2 o2 f3 o3 f4 o4 ow pr su, .agg [slI f5 o5 .u8 ws, slI f6 o6 .i64 ss], .nils, slI f8 o8 .i64 (nI (w :: lc))] M K :=
  SemC_args (args2 := [gmP f1 o1 f2 o2 f3 o3 f4 o4 ow pr su, .agg [slI f5 o5 .u8 ws, slI f6 o6 .i64 ss], slI true true .i64 (nI []), slI f8 o8 .i64 (nI (w :: lc))]) (fun v l h => by
    match l, h with
    | [a, b, c, d], h => exact .cons h.hd (.cons h.tl.hd (.cons (PvWk.nils true true 1 v c h.tl.tl.hd) (.cons h.tl.tl.tl.hd (.nil v))))
    | [], h => exact absurd h.len (by simp)
    | [_], h => exact absurd h.len (by simp)
    | [_, _], h => exact absurd h.len (by simp)
    | [_, _, _], h => exact absurd h.len (by simp)
    | _ :: _ :: _ :: _ :: _ :: _, h => exact absurd h.len (by simp)) (refutes_p T B F hp R hk)
set_option maxHeartbeats 2000000 in
theorem crefutes_top {ow pr ws ss : List Int} {su : List (List Int)} : Top tab (af3).body (ppad [gmP false false false false false false false false ow pr su, .agg [slI false false .u8 ws, slI false false .i64 ss]] (af3).ntmps) [] (PKLaw (af3).results) (PKLaw (af3).results) := by
  simp only [af3]
  refine Top_seq (Top_run ?_)
  simp only [PP, P1, P2, P3, P4, P5, P6, P7, P8, P9, P10, P11, P12, P13, P14, L1, P15, N1, N2, N3, N4, N5, N6, N7, I1, I2, I3, I4, I5, I6, I7, reduceIte, reduceCtorEq]
  refine Top_seq (Top_run ?_)
  simp only [PP, P1, P2, P3, P4, P5, P6, P7, P8, P9, P10, P11, P12, P13, P14, L1, P15, N1, N2, N3, N4, N5, N6, N7, I1, I2, I3, I4, I5, I6, I7, reduceIte, reduceCtorEq]
  refine long33_p T (fun b hb => ?_)
  cases b with
  | true =>
    simp only [PP, P1, P2, P3, P4, P5, P6, P7, P8, P9, P10, P11, P12, P13, P14, L1, P15, N1, N2, N3, N4, N5, N6, N7, I1, I2, I3, I4, I5, I6, I7, reduceIte, reduceCtorEq]
    refine SemC_true T.awake ?_
    simp only [PP, P1, P2, P3, P4, P5, P6, P7, P8, P9, P10, P11, P12, P13, P14, L1, P15, N1, N2, N3, N4, N5, N6, N7, I1, I2, I3, I4, I5, I6, I7, reduceIte, reduceCtorEq]
    unfold PKLaw
    simp only [PP, P1, P2, P3, P4, P5, P6, P7, P8, P9, P10, P11, P12, P13, P14, L1, P15, N1, N2, N3, N4, N5, N6, N7, I1, I2, I3, I4, I5, I6, I7, reduceIte, reduceCtorEq]
  | false =>
    obtain ⟨hl, h40⟩ := hb rfl
    have S := longM_false hl
    have B := S.bnd
    simp only [PP, P1, P2, P3, P4, P5, P6, P7, P8, P9, P10, P11, P12, P13, P14, L1, P15, N1, N2, N3, N4, N5, N6, N7, I1, I2, I3, I4, I5, I6, I7, reduceIte, reduceCtorEq]
    refine Top_seq (Top_run ?_)
    simp only [PP, P1, P2, P3, P4, P5, P6, P7, P8, P9, P10, P11, P12, P13, P14, L1, P15, N1, N2, N3, N4, N5, N6, N7, I1, I2, I3, I4, I5, I6, I7, reduceIte, reduceCtorEq]
    refine refuteAll_p T B (fun e h0 he => ?_) (fun h => ?_) (fun p w lc stem F hp hL hS => ?_)
    · have h14 := he.ne14
      have hz : IntKind.i64.wrap 0 = 0 := rfl
      simp only [PP, P1, P2, P3, P4, P5, P6, P7, P8, P9, P10, P11, P12, P13, P14, L1, P15, N1, N2, N3, N4, N5, N6, N7, I1, I2, I3, I4, I5, I6, I7, reduceIte, reduceCtorEq]
      refine Top_seq (Top_run ?_)
      simp only [PP, P1, P2, P3, P4, P5, P6, P7, P8, P9, P10, P11, P12, P13, P14, L1, P15, N1, N2, N3, N4, N5, N6, N7, I1, I2, I3, I4, I5, I6, I7, reduceIte, reduceCtorEq]
      refine refCheck33_p T B fun e2 hE => ?_
      obtain rfl := hE.eq (.inl ⟨h0, he⟩)
      simp only [PP, P1, P2, P3, P4, P5, P6, P7, P8, P9, P10, P11, P12, P13, P14, L1, P15, N1, N2, N3, N4, N5, N6, N7, I1, I2, I3, I4, I5, I6, I7, reduceIte, reduceCtorEq]
      refine Top_seq (Top_run ?_)
      simp only [PP, P1, P2, P3, P4, P5, P6, P7, P8, P9, P10, P11, P12, P13, P14, L1, P15, N1, N2, N3, N4, N5, N6, N7, I1, I2, I3, I4, I5, I6, I7, reduceIte, reduceCtorEq, h14, hz]
      refine SemC_true T.awake ?_
      simp only [PP, P1, P2, P3, P4, P5, P6, P7, P8, P9, P10, P11, P12, P13, P14, L1, P15, N1, N2, N3, N4, N5, N6, N7, I1, I2, I3, I4, I5, I6, I7, reduceIte, reduceCtorEq]
      unfold PKLaw
      simp only [PP, P1, P2, P3, P4, P5, P6, P7, P8, P9, P10, P11, P12, P13, P14, L1, P15, N1, N2, N3, N4, N5, N6, N7, I1, I2, I3, I4, I5, I6, I7, reduceIte, reduceCtorEq]
    · have hz : IntKind.i64.wrap 0 = 0 := rfl
      simp only [PP, P1, P2, P3, P4, P5, P6, P7, P8, P9, P10, P11, P12, P13, P14, L1, P15, N1, N2, N3, N4, N5, N6, N7, I1, I2, I3, I4, I5, I6, I7, reduceIte, reduceCtorEq]
      refine Top_seq (Top_run ?_)
      simp only [PP, P1, P2, P3, P4, P5, P6, P7, P8, P9, P10, P11, P12, P13, P14, L1, P15, N1, N2, N3, N4, N5, N6, N7, I1, I2, I3, I4, I5, I6, I7, reduceIte, reduceCtorEq]
      refine refCheck33_p T B fun e2 hE => ?_
      obtain rfl := hE.eq (.inr (.inr ⟨h, rfl⟩))
      simp only [PP, P1, P2, P3, P4, P5, P6, P7, P8, P9, P10, P11, P12, P13, P14, L1, P15, N1, N2, N3, N4, N5, N6, N7, I1, I2, I3, I4, I5, I6, I7, reduceIte, reduceCtorEq]
      refine Top_seq (Top_run ?_)
      simp only [PP, P1, P2, P3, P4, P5, P6, P7, P8, P9, P10, P11, P12, P13, P14, L1, P15, N1, N2, N3, N4, N5, N6, N7, I1, I2, I3, I4, I5, I6, I7, reduceIte, reduceCtorEq, hz]
      refine SemC_true T.awake ?_
      simp only [PP, P1, P2, P3, P4, P5, P6, P7, P8, P9, P10, P11, P12, P13, P14, L1, P15, N1, N2, N3, N4, N5, N6, N7, I1, I2, I3, I4, I5, I6, I7, reduceIte, reduceCtorEq]
      unfold PKLaw
      simp only [PP, P1, P2, P3, P4, P5, P6, P7, P8, P9, P10, P11, P12, P13, P14, L1, P15, N1, N2, N3, N4, N5, N6, N7, I1, I2, I3, I4, I5, I6, I7, reduceIte, reduceCtorEq]
    · have nc := hL.par F hp hS
      obtain ⟨st, hst, RL⟩ := refL_of hL hS
      have h1 := RL.ls
      have h2 := RL.ll
      have so := S.o
      rcases hst with ⟨rfl, rfl⟩ | rfl
      · skip
        obtain ⟨xl, hxl⟩ : ∃ xl, xl = nI (w :: lc) := ⟨_, rfl⟩
        have lxl : xl.length < big := by rw [hxl]; show _ < 1000000000000; simp; omega
        rw [← hxl]
        simp only [PP, P1, P2, P3, P4, P5, P6, P7, P8, P9, P10, P11, P12, P13, P14, L1, P15, N1, N2, N3, N4, N5, N6, N7, I1, I2, I3, I4, I5, I6, I7, reduceIte, reduceCtorEq]
        refine Top_seq (Top_run ?_)
        simp only [PP, P1, P2, P3, P4, P5, P6, P7, P8, P9, P10, P11, P12, P13, P14, L1, P15, N1, N2, N3, N4, N5, N6, N7, I1, I2, I3, I4, I5, I6, I7, reduceIte, reduceCtorEq]
        refine refCheck33_p T B fun e2 hE => ?_
        obtain rfl := hE.eq (.inr (.inl ⟨F, nc, rfl⟩))
        simp only [PP, P1, P2, P3, P4, P5, P6, P7, P8, P9, P10, P11, P12, P13, P14, L1, P15, N1, N2, N3, N4, N5, N6, N7, I1, I2, I3, I4, I5, I6, I7, reduceIte, reduceCtorEq]
        refine Top_seq (Top_run ?_)
        simp only [PP, P1, P2, P3, P4, P5, P6, P7, P8, P9, P10, P11, P12, P13, P14, L1, P15, N1, N2, N3, N4, N5, N6, N7, I1, I2, I3, I4, I5, I6, I7, reduceIte, reduceCtorEq]
        refine Top_seq (Top_run ?_)
        simp only [PP, P1, P2, P3, P4, P5, P6, P7, P8, P9, P10, P11, P12, P13, P14, L1, P15, N1, N2, N3, N4, N5, N6, N7, I1, I2, I3, I4, I5, I6, I7, reduceIte, reduceCtorEq]
        rw [hxl]
        refine refutesN_p T B F hp RL ?_
        rw [← hxl]
        simp only [PP, P1, P2, P3, P4, P5, P6, P7, P8, P9, P10, P11, P12, P13, P14, L1, P15, N1, N2, N3, N4, N5, N6, N7, I1, I2, I3, I4, I5, I6, I7, reduceIte, reduceCtorEq]
        refine Top_weak (b := [.junk, .junk, .ptr 0 0 0, .ptr 1 0 0, .junk, .nils, slI false true .i64 xl, .junk, .junk, .junk, .junk, .junk, .junk, .junk, .junk, .junk, .junk, .junk, .junk, .junk, .junk, .junk, .junk, .junk, .junk, .junk, .junk, .junk, .junk, .junk, .junk, .junk, .junk, .junk, .junk, .junk, .junk, .junk, .junk, .junk, .junk, .junk, .junk, .junk, .junk, .junk, .junk, .junk, .junk, .junk, .junk, .junk]) ?_ (by simp only [PWeak_nil, PWeak_junk, PWeak_same, Int.cast_ofNat_Int, List.length_append, List.length_cons, List.length_nil, Nat.zero_add]) rfl
        refine OvrTop_start ?_
        refine OvrTop_over1 (v := .nils) rfl rfl (overNil_ok T) ?_
        simp only [pput, ptset]
        refine OvrTop_over1 (v := slI false true .i64 xl) rfl rfl (overInts_ok T lxl) ?_
        simp only [pput, ptset]
        refine OvrTop_end rfl rfl ?_
        simp only [swpL, PV.swp, swpL_ints, swpL_slI, swpL_bools, pput, ptset, List.map_cons, List.map_nil, PObj.mapC]
        refine Top_run ?_
        simp only [PP, P1, P2, P3, P4, P5, P6, P7, P8, P9, P10, P11, P12, P13, P14, L1, P15, N1, N2, N3, N4, N5, N6, N7, I1, I2, I3, I4, I5, I6, I7, reduceIte, reduceCtorEq]
        refine check33_p T B fun e3 hE3 => ?_
        obtain rfl := hE3.eq (.inr (.inl ⟨F, nc, rfl⟩))
        simp only [PP, P1, P2, P3, P4, P5, P6, P7, P8, P9, P10, P11, P12, P13, P14, L1, P15, N1, N2, N3, N4, N5, N6, N7, I1, I2, I3, I4, I5, I6, I7, reduceIte, reduceCtorEq]
        refine SemC_true T.awake ?_
        simp only [PP, P1, P2, P3, P4, P5, P6, P7, P8, P9, P10, P11, P12, P13, P14, L1, P15, N1, N2, N3, N4, N5, N6, N7, I1, I2, I3, I4, I5, I6, I7, reduceIte, reduceCtorEq]
        unfold PKLaw
        simp only [PP, P1, P2, P3, P4, P5, P6, P7, P8, P9, P10, P11, P12, P13, P14, L1, P15, N1, N2, N3, N4, N5, N6, N7, I1, I2, I3, I4, I5, I6, I7, reduceIte, reduceCtorEq]
      · obtain ⟨sl, hsl⟩ : ∃ sl, sl = nI st := ⟨_, rfl⟩
        have lsl : sl.length < big := by rw [hsl]; show _ < 1000000000000; simp; omega
        rw [← hsl]
        obtain ⟨xl, hxl⟩ : ∃ xl, xl = nI (w :: lc) := ⟨_, rfl⟩
        have lxl : xl.length < big := by rw [hxl]; show _ < 1000000000000; simp; omega
        rw [← hxl]
        simp only [PP, P1, P2, P3, P4, P5, P6, P7, P8, P9, P10, P11, P12, P13, P14, L1, P15, N1, N2, N3, N4, N5, N6, N7, I1, I2, I3, I4, I5, I6, I7, reduceIte, reduceCtorEq]
        refine Top_seq (Top_run ?_)
        simp only [PP, P1, P2, P3, P4, P5, P6, P7, P8, P9, P10, P11, P12, P13, P14, L1, P15, N1, N2, N3, N4, N5, N6, N7, I1, I2, I3, I4, I5, I6, I7, reduceIte, reduceCtorEq]
        refine refCheck33_p T B fun e2 hE => ?_
        obtain rfl := hE.eq (.inr (.inl ⟨F, nc, rfl⟩))
        simp only [PP, P1, P2, P3, P4, P5, P6, P7, P8, P9, P10, P11, P12, P13, P14, L1, P15, N1, N2, N3, N4, N5, N6, N7, I1, I2, I3, I4, I5, I6, I7, reduceIte, reduceCtorEq]
        refine Top_seq (Top_run ?_)
        simp only [PP, P1, P2, P3, P4, P5, P6, P7, P8, P9, P10, P11, P12, P13, P14, L1, P15, N1, N2, N3, N4, N5, N6, N7, I1, I2, I3, I4, I5, I6, I7, reduceIte, reduceCtorEq]
        refine Top_seq (Top_run ?_)
        simp only [PP, P1, P2, P3, P4, P5, P6, P7, P8, P9, P10, P11, P12, P13, P14, L1, P15, N1, N2, N3, N4, N5, N6, N7, I1, I2, I3, I4, I5, I6, I7, reduceIte, reduceCtorEq]
        rw [hxl, hsl]
        refine refutes_p T B F hp RL ?_
        rw [← hsl, ← hxl]
        simp only [PP, P1, P2, P3, P4, P5, P6, P7, P8, P9, P10, P11, P12, P13, P14, L1, P15, N1, N2, N3, N4, N5, N6, N7, I1, I2, I3, I4, I5, I6, I7, reduceIte, reduceCtorEq]
        refine Top_weak (b := [.junk, .junk, .ptr 0 0 0, .ptr 1 0 0, .junk, slI false true .i64 sl, slI false true .i64 xl, .junk, .junk, .junk, .junk, .junk, .junk, .junk, .junk, .junk, .junk, .junk, .junk, .junk, .junk, .junk, .junk, .junk, .junk, .junk, .junk, .junk, .junk, .junk, .junk, .junk, .junk, .junk, .junk, .junk, .junk, .junk, .junk, .junk, .junk, .junk, .junk, .junk, .junk, .junk, .junk, .junk, .junk, .junk, .junk, .junk]) ?_ (by simp only [PWeak_nil, PWeak_junk, PWeak_same, Int.cast_ofNat_Int, List.length_append, List.length_cons, List.length_nil, Nat.zero_add]) rfl
        refine OvrTop_start ?_
        refine OvrTop_over1 (v := slI false true .i64 sl) rfl rfl (overInts_ok T lsl) ?_
        simp only [pput, ptset]
        refine OvrTop_over1 (v := slI false true .i64 xl) rfl rfl (overInts_ok T lxl) ?_
        simp only [pput, ptset]
        refine OvrTop_end rfl rfl ?_
        simp only [swpL, PV.swp, swpL_ints, swpL_slI, swpL_bools, pput, ptset, List.map_cons, List.map_nil, PObj.mapC]
        refine Top_run ?_
        simp only [PP, P1, P2, P3, P4, P5, P6, P7, P8, P9, P10, P11, P12, P13, P14, L1, P15, N1, N2, N3, N4, N5, N6, N7, I1, I2, I3, I4, I5, I6, I7, reduceIte, reduceCtorEq]
        refine check33_p T B fun e3 hE3 => ?_
        obtain rfl := hE3.eq (.inr (.inl ⟨F, nc, rfl⟩))
        simp only [PP, P1, P2, P3, P4, P5, P6, P7, P8, P9, P10, P11, P12, P13, P14, L1, P15, N1, N2, N3, N4, N5, N6, N7, I1, I2, I3, I4, I5, I6, I7, reduceIte, reduceCtorEq]
        refine SemC_true T.awake ?_
        simp only [PP, P1, P2, P3, P4, P5, P6, P7, P8, P9, P10, P11, P12, P13, P14, L1, P15, N1, N2, N3, N4, N5, N6, N7, I1, I2, I3, I4, I5, I6, I7, reduceIte, reduceCtorEq]
        unfold PKLaw
        simp only [PP, P1, P2, P3, P4, P5, P6, P7, P8, P9, P10, P11, P12, P13, P14, L1, P15, N1, N2, N3, N4, N5, N6, N7, I1, I2, I3, I4, I5, I6, I7, reduceIte, reduceCtorEq]
theorem crefutes_all (args : List AV) (h : H) (hs : ShVs [gameTy, solTy] args h) :
    ∃ n h', (run tab n).call 3 args h = some (.bool true, h') := by
  obtain ⟨a, b, rfl, ha, hb⟩ := shVs2 hs
  obtain ⟨ow, pr, su, r1, N⟩ := arg_game ha
  obtain ⟨ws, ss, r2, hw⟩ := arg_sol hb
  exact run_of_C (law_of_top T.h3 (.cons r1 (.cons r2 (.nil _))) (crefutes_top T))
end
end Go.Am.Ar

