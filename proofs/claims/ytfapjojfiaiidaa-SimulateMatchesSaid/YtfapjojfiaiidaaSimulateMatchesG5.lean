/- The law that Relation, Classes and Quotient answer as the reference does, for all arguments. -/
import Derived.Test.YtfapjojfiaiidaaSimulateMatchesG4
import Derived.Test.YtfapjojfiaiidaaSimulateMatchesG1
set_option linter.unusedVariables false
set_option linter.unusedSimpArgs false
set_option maxRecDepth 10000
namespace Go.Am.Ar
open Go.Am.PV renaming junk → Z
open Go.Am renaming pchk → P1,pold → P2,PKNo → P3,ppack → P4,PObj.under → P5,pput → P6,ptset → P7,ptget → P8,pev → P9,ofAV → P10,ofAV1 → P11,ppad → P12,pfill → P13,prepl → P14,AO.effect → P15
open List renaming replicate → L1
open Nat renaming reduceAdd → N1,reduceSub → N2,reduceMul → N3,reduceLT → N4,reduceLeDiff → N5,reduceEqDiff → N6,reduceBEq → N7
open Int renaming reduceToNat → I1,reduceLT → I2,reduceLE → I3,reduceEq → I4,reduceAdd → I5,reduceSub → I6,reduceNeg → I7
theorem jnkL_ints (k : IntKind) (xs : List Int) : jnkL (xs.map (PV.int k)) = xs.map (PV.int k) := by
  rw [jnkL_map,List.map_map]; exact List.map_congr_left fun x _ => by simp [PV.jnk]
theorem jnkL_bools (xs : List Bool) : jnkL (xs.map PV.bool) = xs.map PV.bool := by
  rw [jnkL_map,List.map_map]; exact List.map_congr_left fun x _ => by simp [PV.jnk]
theorem jnk_old (sz n : Nat) (cs : List PV) : PV.jnk (.sl false false sz n cs) = .sl false false sz n (jnkL cs) := by simp [PV.jnk]
theorem egL_of {f : PV → PV} (hf : ∀ k n,f (.int k n) = .int k n) (es : List Eg) : (egL es).map f = egL es := by
  unfold egL
  induction es with
  | nil => rfl
  | cons e es ih => rw [List.flatMap_cons,List.map_append,ih]; simp [hf]
theorem jnkL_egL (es : List Eg) : jnkL (egL es) = egL es := by rw [jnkL_map]; exact egL_of (fun k n => by simp [PV.jnk]) es
theorem ageL_egL (es : List Eg) : ageL (egL es) = egL es := by rw [ageL_map]; exact egL_of (fun k n => by simp [PV.age]) es
theorem jnkL_rows (rs : List (List Bool)) : jnkL (rs.map (slB false false)) = rs.map (slB false false) := by
  rw [jnkL_map,List.map_map]
  exact List.map_congr_left fun x _ => by
    show PV.jnk (slB false false x) = _
    unfold slB
    rw [jnk_old,jnkL_bools]
theorem age_sl (f o : Bool) (sz n : Nat) (cs : List PV) : PV.age (.sl f o sz n cs) = .sl false false sz n (ageL cs) := by simp [PV.age]
theorem ageL_rows (f o : Bool) (rs : List (List Bool)) : ageL (rs.map (slB f o)) = rs.map (slB false false) := by
  rw [ageL_map,List.map_map]
  exact List.map_congr_left fun x _ => by
    show PV.age (slB f o x) = _
    unfold slB
    rw [age_sl,ageL_bools]
theorem jnkL_nf (N : NF) : jnkL (nfF N) = nfF N := by
  simp only [jnkL,jnk_old,jnkL_ints,jnkL_egL,show ∀ k n,PV.jnk (.int k n) = .int k n from fun k n => by simp [PV.jnk],slI,slE]
theorem ageL_nf (f1 o1 f2 o2 f3 o3 : Bool) (N : NF) : ageL (nfC f1 o1 f2 o2 f3 o3 N) = nfF N := by
  simp only [ageL,age_sl,ageL_ints,ageL_egL,PV.age,slI,slE]
theorem TopX_wk {tab : FuncId → Option AF} {c : AC} {a b : List PV} {M : Mem} {Qn Qr : List PV → Mem → Prop} {Qe : Nat → List PV → Mem → Prop} (t : Nat) (v' : PV) (h : PvWk (ptget a t) v') (hb : ptset a t v' = b) (hq : TopX tab c b M Qn Qr Qe) : TopX tab c a M Qn Qr Qe := by
  subst hb
  exact fun w hh a' s ha => hq w hh a' s (ha.wkAt t h)
theorem TopX_mono {tab : FuncId → Option AF} {c : AC} {a : List PV} {M : Mem} {Qn Qn' Qr : List PV → Mem → Prop} {Qe : Nat → List PV → Mem → Prop} (h : TopX tab c a M Qn' Qr Qe) (hq : ∀ b N,Qn' b N → Qn b N) : TopX tab c a M Qn Qr Qe :=
  fun w hh a' s ha => W_mono (h w hh a' s ha) (fun _ _ ⟨w1,b,N,s1,r1,q⟩ => ⟨w1,b,N,s1,r1,hq _ _ q⟩) (fun _ _ q => q) (fun _ _ _ q => q)
section
variable {tab : FuncId → Option AF} (T : HasA tab)
include T
set_option maxHeartbeats 2000000 in
theorem smatches_top {N : NF} (A : NumN N) : Top tab (af3).body (ppad [.agg (nfF N)] (af3).ntmps) [] (PKLaw (af3).results) (PKLaw (af3).results) := by
  simp only [af3]
  refine TopX_top ?_
  refine TopX_seq (TopX_run ?_)
  simp only [PP,P1,P2,P3,P4,P5,P6,P7,P8,P9,P10,P11,P12,P13,P14,L1,P15,N1,N2,N3,N4,N5,N6,N7,I1,I2,I3,I4,I5,I6,I7,reduceIte,reduceCtorEq]
  refine TopX_seq (TopX_run ?_)
  simp only [PP,P1,P2,P3,P4,P5,P6,P7,P8,P9,P10,P11,P12,P13,P14,L1,P15,N1,N2,N3,N4,N5,N6,N7,I1,I2,I3,I4,I5,I6,I7,reduceIte,reduceCtorEq]
  refine longOne_p T A ?_
  cases hl : longN N with
  | true =>
    simp only [PP,P1,P2,P3,P4,P5,P6,P7,P8,P9,P10,P11,P12,P13,P14,L1,P15,N1,N2,N3,N4,N5,N6,N7,I1,I2,I3,I4,I5,I6,I7,reduceIte,reduceCtorEq]
    refine SemC_true T.awake ?_
    simp only [PP,P1,P2,P3,P4,P5,P6,P7,P8,P9,P10,P11,P12,P13,P14,L1,P15,N1,N2,N3,N4,N5,N6,N7,I1,I2,I3,I4,I5,I6,I7,reduceIte,reduceCtorEq]
    unfold PKLaw
    simp only [PP,P1,P2,P3,P4,P5,P6,P7,P8,P9,P10,P11,P12,P13,P14,L1,P15,N1,N2,N3,N4,N5,N6,N7,I1,I2,I3,I4,I5,I6,I7,reduceIte,reduceCtorEq]
  | false =>
  have B := longN_bn A hl
  have h12 : checkN N = 0 → N.n ≤ 12 := fun e => by have := longN_sm hl e; omega
  simp only [PP,P1,P2,P3,P4,P5,P6,P7,P8,P9,P10,P11,P12,P13,P14,L1,P15,N1,N2,N3,N4,N5,N6,N7,I1,I2,I3,I4,I5,I6,I7,reduceIte,reduceCtorEq]
  refine TopX_seq (TopX_run ?_)
  simp only [PP,P1,P2,P3,P4,P5,P6,P7,P8,P9,P10,P11,P12,P13,P14,L1,P15,N1,N2,N3,N4,N5,N6,N7,I1,I2,I3,I4,I5,I6,I7,reduceIte,reduceCtorEq]
  refine copyN_p T B ?_
  simp only [PP,P1,P2,P3,P4,P5,P6,P7,P8,P9,P10,P11,P12,P13,P14,L1,P15,N1,N2,N3,N4,N5,N6,N7,I1,I2,I3,I4,I5,I6,I7,reduceIte,reduceCtorEq]
  refine TopX_seq (TopX_run ?_)
  simp only [PP,P1,P2,P3,P4,P5,P6,P7,P8,P9,P10,P11,P12,P13,P14,L1,P15,N1,N2,N3,N4,N5,N6,N7,I1,I2,I3,I4,I5,I6,I7,reduceIte,reduceCtorEq]
  refine checkR_p T B ?_
  simp only [PP,P1,P2,P3,P4,P5,P6,P7,P8,P9,P10,P11,P12,P13,P14,L1,P15,N1,N2,N3,N4,N5,N6,N7,I1,I2,I3,I4,I5,I6,I7,reduceIte,reduceCtorEq]
  refine TopX_seq (TopX_run ?_)
  simp only [PP,P1,P2,P3,P4,P5,P6,P7,P8,P9,P10,P11,P12,P13,P14,L1,P15,N1,N2,N3,N4,N5,N6,N7,I1,I2,I3,I4,I5,I6,I7,reduceIte,reduceCtorEq]
  refine TopX_seq (TopX_mono (Qn' := fun b M => ∃ v5 want,PvWk v5 (slBr false true false true want) ∧ RelA N want (checkN N) ∧ PWeak b [Z,.ptr 0 0 0,.bool false,.ptr 1 0 0,p64 (checkN N),v5,Z,Z,Z,Z,Z,Z,Z,Z,Z,Z,Z,Z,Z,Z,Z,Z,Z,Z,Z,Z,Z,Z,Z,Z,Z,Z,Z,Z,Z,Z,Z,Z,Z,Z,Z,Z,Z,Z,Z,Z,Z,Z,Z,Z,Z,Z,Z,Z,Z,Z,Z,Z,Z,Z,Z,Z,Z,Z,Z,Z,Z,Z,Z,Z,Z,Z,Z,Z,Z,Z,Z,Z,Z,Z,Z,Z,Z,Z,Z,Z,Z,Z,Z,Z,Z,Z,Z,Z,Z,Z,Z,Z,Z,Z,Z,Z,Z,Z,Z,Z,Z,Z,Z,Z,Z,Z] ∧ M = [.cells 0 0 (nfF N),.cells 0 1 (nfC false true false true false true N)]) (TopX_run ?_) ?_)
  · by_cases c : checkN N = 0
    · simp only [PP,P1,P2,P3,P4,P5,P6,P7,P8,P9,P10,P11,P12,P13,P14,L1,P15,N1,N2,N3,N4,N5,N6,N7,I1,I2,I3,I4,I5,I6,I7,reduceIte,reduceCtorEq,c]
      refine refRelation_p T (nok_of c) B fun rs R => ?_
      simp only [PP,P1,P2,P3,P4,P5,P6,P7,P8,P9,P10,P11,P12,P13,P14,L1,P15,N1,N2,N3,N4,N5,N6,N7,I1,I2,I3,I4,I5,I6,I7,reduceIte,reduceCtorEq]
      exact ⟨_,rs,PvWk.refl _,.inr ⟨c,R,rfl⟩,(by simp only [PWeak_nil,PWeak_junk,PWeak_same,c])⟩
    · simp only [PP,P1,P2,P3,P4,P5,P6,P7,P8,P9,P10,P11,P12,P13,P14,L1,P15,N1,N2,N3,N4,N5,N6,N7,I1,I2,I3,I4,I5,I6,I7,reduceIte,reduceCtorEq,c]
      exact ⟨.nils,[],PvWk.nils _ _ _,.inl ⟨c,rfl,rfl⟩,(by simp only [PWeak_nil,PWeak_junk,PWeak_same,Int.cast_ofNat_Int,List.length_append,List.length_cons,List.length_nil,Nat.zero_add])⟩
  rintro b M ⟨v5,want,hw5,hwant,hb,rfl⟩
  refine TopX_weak ?_ hb rfl
  refine TopX_wk (b := [Z,.ptr 0 0 0,.bool false,.ptr 1 0 0,p64 (checkN N),slBr false true false true want,Z,Z,Z,Z,Z,Z,Z,Z,Z,Z,Z,Z,Z,Z,Z,Z,Z,Z,Z,Z,Z,Z,Z,Z,Z,Z,Z,Z,Z,Z,Z,Z,Z,Z,Z,Z,Z,Z,Z,Z,Z,Z,Z,Z,Z,Z,Z,Z,Z,Z,Z,Z,Z,Z,Z,Z,Z,Z,Z,Z,Z,Z,Z,Z,Z,Z,Z,Z,Z,Z,Z,Z,Z,Z,Z,Z,Z,Z,Z,Z,Z,Z,Z,Z,Z,Z,Z,Z,Z,Z,Z,Z,Z,Z,Z,Z,Z,Z,Z,Z,Z,Z,Z,Z,Z,Z]) 5 _ hw5 rfl ?_
  refine TopX_seq (TopX_run ?_)
  simp only [PP,P1,P2,P3,P4,P5,P6,P7,P8,P9,P10,P11,P12,P13,P14,L1,P15,N1,N2,N3,N4,N5,N6,N7,I1,I2,I3,I4,I5,I6,I7,reduceIte,reduceCtorEq]
  refine refClasses_p T B (fun l0 e1 hL => ?_)
  simp only [PP,P1,P2,P3,P4,P5,P6,P7,P8,P9,P10,P11,P12,P13,P14,L1,P15,N1,N2,N3,N4,N5,N6,N7,I1,I2,I3,I4,I5,I6,I7,reduceIte,reduceCtorEq]
  refine TopX_seq (TopX_run ?_)
  simp only [PP,P1,P2,P3,P4,P5,P6,P7,P8,P9,P10,P11,P12,P13,P14,L1,P15,N1,N2,N3,N4,N5,N6,N7,I1,I2,I3,I4,I5,I6,I7,reduceIte,reduceCtorEq]
  refine refQuotient_p T B (fun Q0 e2 hQ => ?_)
  obtain ⟨BQ,fQ⟩ := hQ.fit B
  simp only [PP,P1,P2,P3,P4,P5,P6,P7,P8,P9,P10,P11,P12,P13,P14,L1,P15,N1,N2,N3,N4,N5,N6,N7,I1,I2,I3,I4,I5,I6,I7,reduceIte,reduceCtorEq]
  refine TopX_weak (b := [Z,.ptr 0 0 0,Z,.ptr 1 0 0,p64 (checkN N),slBr false true false true want,slI false true .i64 l0,p64 e1,.ptr 2 0 0,p64 e2,Z,Z,Z,Z,Z,Z,Z,Z,Z,Z,Z,Z,Z,Z,Z,Z,Z,Z,Z,Z,Z,Z,Z,Z,Z,Z,Z,Z,Z,Z,Z,Z,Z,Z,Z,Z,Z,Z,Z,Z,Z,Z,Z,Z,Z,Z,Z,Z,Z,Z,Z,Z,Z,Z,Z,Z,Z,Z,Z,Z,Z,Z,Z,Z,Z,Z,Z,Z,Z,Z,Z,Z,Z,Z,Z,Z,Z,Z,Z,Z,Z,Z,Z,Z,Z,Z,Z,Z,Z,Z,Z,Z,Z,Z,Z,Z,Z,Z,Z,Z,Z,Z]) (N := [.cells 0 0 (nfF N),.cells 0 1 (nfC false true false true false true N),.cells 0 1 (nfC false true false true false true Q0)]) ?_ (by simp only [PWeak_nil,PWeak_junk,PWeak_same,Int.cast_ofNat_Int,List.length_append,List.length_cons,List.length_nil,Nat.zero_add]) rfl
  refine TopX_age (b := [Z,.ptr 0 0 0,Z,.ptr 1 0 0,p64 (checkN N),slBr false false false false want,slI false false .i64 l0,p64 e1,.ptr 2 0 0,p64 e2,Z,Z,Z,Z,Z,Z,Z,Z,Z,Z,Z,Z,Z,Z,Z,Z,Z,Z,Z,Z,Z,Z,Z,Z,Z,Z,Z,Z,Z,Z,Z,Z,Z,Z,Z,Z,Z,Z,Z,Z,Z,Z,Z,Z,Z,Z,Z,Z,Z,Z,Z,Z,Z,Z,Z,Z,Z,Z,Z,Z,Z,Z,Z,Z,Z,Z,Z,Z,Z,Z,Z,Z,Z,Z,Z,Z,Z,Z,Z,Z,Z,Z,Z,Z,Z,Z,Z,Z,Z,Z,Z,Z,Z,Z,Z,Z,Z,Z,Z,Z,Z,Z]) (N := [.cells 0 0 (nfF N),.cells 0 1 (nfF N),.cells 0 1 (nfF Q0)]) ?_ ?_ ?_
  · simp only [ageL,PV.age,age_sl,ageL_rows,ageL_ints]
  · simp only [List.map_cons,List.map_nil,PObj.mapC,ageL_nf]
  refine TopX_seq (TopX_seq (TopX_run ?_))
  simp only [PP,P1,P2,P3,P4,P5,P6,P7,P8,P9,P10,P11,P12,P13,P14,L1,P15,N1,N2,N3,N4,N5,N6,N7,I1,I2,I3,I4,I5,I6,I7,reduceIte,reduceCtorEq]
  refine TopX_block ?_
  refine TopX_loop (A := Nat × Mem) (fun y => y.1 ≤ 2) (fun y => [Z,.ptr 0 0 0,Z,.ptr 1 0 0,p64 (checkN N),slBr false false false false want,slI false false .i64 l0,p64 e1,.ptr 2 0 0,p64 e2,p64 y.1,Z,Z,Z,Z,Z,Z,Z,Z,Z,Z,Z,Z,Z,Z,Z,Z,Z,Z,Z,Z,Z,Z,Z,Z,Z,Z,Z,Z,Z,Z,Z,Z,Z,Z,Z,Z,Z,Z,Z,Z,Z,Z,Z,Z,Z,Z,Z,Z,Z,Z,Z,Z,Z,Z,Z,Z,Z,Z,Z,Z,Z,Z,Z,Z,Z,Z,Z,Z,Z,Z,Z,Z,Z,Z,Z,Z,Z,Z,Z,Z,Z,Z,Z,Z,Z,Z,Z,Z,Z,Z,Z,Z,Z,Z,Z,Z,Z,Z,Z,Z,Z]) (fun y => .cells 0 0 (nfF N) :: .cells 0 1 (nfF N) :: .cells 0 1 (nfF Q0) :: y.2) (fun y => 2 - y.1) (0,[]) (by decide) (by simp only [PWeak_nil,PWeak_junk,PWeak_same,Int.cast_ofNat_Int,List.length_append,List.length_cons,List.length_nil,Nat.zero_add]) rfl ?_
  rintro ⟨k,G⟩ hk ih
  simp only at hk ⊢
  refine TopX_round (by kernel_rfl) ?_
  refine TopX_seq (TopX_run ?_)
  simp only [PP,P1,P2,P3,P4,P5,P6,P7,P8,P9,P10,P11,P12,P13,P14,L1,P15,N1,N2,N3,N4,N5,N6,N7,I1,I2,I3,I4,I5,I6,I7,reduceIte,reduceCtorEq]
  refine QIf.intro (fun d => ?_) (fun d => ?_)
  rotate_left
  · simp only [PP,P1,P2,P3,P4,P5,P6,P7,P8,P9,P10,P11,P12,P13,P14,L1,P15,N1,N2,N3,N4,N5,N6,N7,I1,I2,I3,I4,I5,I6,I7,reduceIte,reduceCtorEq,d]
    refine TopX_run ?_
    simp only [PP,P1,P2,P3,P4,P5,P6,P7,P8,P9,P10,P11,P12,P13,P14,L1,P15,N1,N2,N3,N4,N5,N6,N7,I1,I2,I3,I4,I5,I6,I7,reduceIte,reduceCtorEq]
    refine SemC_true T.awake ?_
    simp only [PP,P1,P2,P3,P4,P5,P6,P7,P8,P9,P10,P11,P12,P13,P14,L1,P15,N1,N2,N3,N4,N5,N6,N7,I1,I2,I3,I4,I5,I6,I7,reduceIte,reduceCtorEq]
    unfold PKLaw
    simp only [PP,P1,P2,P3,P4,P5,P6,P7,P8,P9,P10,P11,P12,P13,P14,L1,P15,N1,N2,N3,N4,N5,N6,N7,I1,I2,I3,I4,I5,I6,I7,reduceIte,reduceCtorEq]
  have hwk := wrap_succ (k := k) (by show _ < 1000000000000; omega)
  have hrl : want.length < 1000000000000 ∧ ∀ r ∈ want,r.length < 1000000000000 := by
    rcases hwant with ⟨_,rfl,_⟩ | ⟨h1,R,_⟩
    · exact ⟨by decide,fun r hr => by cases hr⟩
    · have n64 := (nok_of h1).n64
      exact ⟨by have := R.d.1; omega,fun r hr => by have := R.d.2 r hr; omega⟩
  have hll : l0.length < 1000000000000 := by
    rcases hL with ⟨_,rfl,_⟩ | ⟨h1,_,rs,m,R,hC⟩
    · decide
    · have n64 := (nok_of h1).n64
      have n0 := (nok_of h1).n0
      have := hC.len
      omega
  simp only [PP,P1,P2,P3,P4,P5,P6,P7,P8,P9,P10,P11,P12,P13,P14,L1,P15,N1,N2,N3,N4,N5,N6,N7,I1,I2,I3,I4,I5,I6,I7,reduceIte,reduceCtorEq,d]
  refine TopX_seq (TopX_block ?_)
  refine TopX_seq (TopX_run ?_)
  simp only [PP,P1,P2,P3,P4,P5,P6,P7,P8,P9,P10,P11,P12,P13,P14,L1,P15,N1,N2,N3,N4,N5,N6,N7,I1,I2,I3,I4,I5,I6,I7,reduceIte,reduceCtorEq]
  refine relationZ_p T B (fun rs e hR => ?_)
  obtain ⟨rfl,rfl⟩ := hwant.eq hR
  simp only [PP,P1,P2,P3,P4,P5,P6,P7,P8,P9,P10,P11,P12,P13,P14,L1,P15,N1,N2,N3,N4,N5,N6,N7,I1,I2,I3,I4,I5,I6,I7,reduceIte,reduceCtorEq]
  refine TopX_seq (TopX_run ?_)
  simp only [PP,P1,P2,P3,P4,P5,P6,P7,P8,P9,P10,P11,P12,P13,P14,L1,P15,N1,N2,N3,N4,N5,N6,N7,I1,I2,I3,I4,I5,I6,I7,reduceIte,reduceCtorEq]
  refine classesZ_p T B (fun l e hL2 => ?_)
  obtain ⟨rfl,rfl⟩ := hL.eq hL2
  simp only [PP,P1,P2,P3,P4,P5,P6,P7,P8,P9,P10,P11,P12,P13,P14,L1,P15,N1,N2,N3,N4,N5,N6,N7,I1,I2,I3,I4,I5,I6,I7,reduceIte,reduceCtorEq]
  refine TopX_seq (TopX_run ?_)
  simp only [PP,P1,P2,P3,P4,P5,P6,P7,P8,P9,P10,P11,P12,P13,P14,L1,P15,N1,N2,N3,N4,N5,N6,N7,I1,I2,I3,I4,I5,I6,I7,reduceIte,reduceCtorEq]
  refine quotientZ_p T B h12 (fun Q e hQ2 => ?_)
  obtain ⟨rfl,rfl⟩ := hQ.eq hQ2
  simp only [PP,P1,P2,P3,P4,P5,P6,P7,P8,P9,P10,P11,P12,P13,P14,L1,P15,N1,N2,N3,N4,N5,N6,N7,I1,I2,I3,I4,I5,I6,I7,reduceIte,reduceCtorEq,gk0,sk0]
  refine TopX_seq (TopX_run ?_)
  simp only [PP,P1,P2,P3,P4,P5,P6,P7,P8,P9,P10,P11,P12,P13,P14,L1,P15,N1,N2,N3,N4,N5,N6,N7,I1,I2,I3,I4,I5,I6,I7,reduceIte,reduceCtorEq,gk0,sk0]
  refine same_p T hrl.1 hrl.2 ?_
  simp only [PP,P1,P2,P3,P4,P5,P6,P7,P8,P9,P10,P11,P12,P13,P14,L1,P15,N1,N2,N3,N4,N5,N6,N7,I1,I2,I3,I4,I5,I6,I7,reduceIte,reduceCtorEq,gk0,sk0]
  refine equalInts_p T hll ?_
  simp only [PP,P1,P2,P3,P4,P5,P6,P7,P8,P9,P10,P11,P12,P13,P14,L1,P15,N1,N2,N3,N4,N5,N6,N7,I1,I2,I3,I4,I5,I6,I7,reduceIte,reduceCtorEq,gk0,sk0]
  refine equalN_p T BQ fQ fQ (fun b hb => ?_)
  rw [hb.2 rfl]
  simp only [PP,P1,P2,P3,P4,P5,P6,P7,P8,P9,P10,P11,P12,P13,P14,L1,P15,N1,N2,N3,N4,N5,N6,N7,I1,I2,I3,I4,I5,I6,I7,reduceIte,reduceCtorEq,gk0,sk0]
  refine equalN_p T B A.e A.e (fun b hb => ?_)
  rw [hb.2 rfl]
  simp only [PP,P1,P2,P3,P4,P5,P6,P7,P8,P9,P10,P11,P12,P13,P14,L1,P15,N1,N2,N3,N4,N5,N6,N7,I1,I2,I3,I4,I5,I6,I7,reduceIte,reduceCtorEq,gk0,sk0]
  refine TopX_weak (b := [Z,.ptr 0 0 0,Z,.ptr 1 0 0,p64 (checkN N),slBr false false false false want,slI false false .i64 l0,p64 e1,.ptr 2 0 0,p64 e2,p64 k,slBr false true false true want,Z,slI false true .i64 l0,Z,.ptr (G.length + 1 + 1 + 1) 0 0,Z,Z,Z,Z,Z,Z,Z,Z,Z,Z,Z,Z,Z,Z,Z,Z,Z,Z,Z,Z,Z,Z,Z,Z,Z,Z,Z,Z,Z,Z,Z,Z,Z,Z,Z,Z,Z,Z,Z,Z,Z,Z,Z,Z,Z,Z,Z,Z,Z,Z,Z,Z,Z,Z,Z,Z,Z,Z,Z,Z,Z,Z,Z,Z,Z,Z,Z,Z,Z,Z,Z,Z,Z,Z,Z,Z,Z,Z,Z,Z,Z,Z,Z,Z,Z,Z,Z,Z,Z,Z,Z,Z,Z,Z,Z,Z]) ?_ (by simp only [PWeak_nil,PWeak_junk,PWeak_same,Int.cast_ofNat_Int,List.length_append,List.length_cons,List.length_nil,Nat.zero_add]) rfl
  refine over13 T (ver := 1) hrl.1 hrl.2 hll BQ (by simp only [List.getElem?_cons_succ,gk0]; rfl) ?_
  simp only [jnkL,PV.jnk,slBr,jnk_old,jnkL_rows,jnkL_ints,List.map_cons,PObj.mapC,jnkL_nf]
  refine TopX_run ?_
  simp only [PP,P1,P2,P3,P4,P5,P6,P7,P8,P9,P10,P11,P12,P13,P14,L1,P15,N1,N2,N3,N4,N5,N6,N7,I1,I2,I3,I4,I5,I6,I7,reduceIte,reduceCtorEq,hwk,jnkL_egL]
  have hk2 : k < 2 := by omega
  exact TopX_weak (ih (k + 1,G.map (PObj.mapC jnkL) ++ [PObj.mapC jnkL (.cells 0 1 (nfC false true false true false true Q0))]) (by show k + 1 ≤ 2; omega) (by show 2 - (k + 1) < 2 - k; omega)) (by simp only [PWeak_nil,PWeak_junk,PWeak_same,Int.cast_ofNat_Int,List.length_append,List.length_cons,List.length_nil,Nat.zero_add]) rfl
theorem smatches_all (args : List AV) (h : H) (hs : ShVs [nfaTy] args h) :
    ∃ n h',(run tab n).call 3 args h = some (.bool true,h') := by
  obtain ⟨a,rfl,ha⟩ := shVs1 hs
  obtain ⟨N,r1,A⟩ := arg_nfa ha
  exact run_of_C (law_of_top T.h3 (.cons r1 (.nil _)) (smatches_top T A))
end
end Go.Am.Ar

