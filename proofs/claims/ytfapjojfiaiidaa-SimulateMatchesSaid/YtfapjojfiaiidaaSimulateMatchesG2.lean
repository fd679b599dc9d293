/- Contracts: the reference's holds and Is, and what goes with it. -/
import Derived.Test.YtfapjojfiaiidaaSimulateMatchesG1
import Derived.Test.YtfapjojfiaiidaaPmC
import Derived.Test.YtfapjojfiaiidaaSimulateMatchesG0
set_option linter.unusedVariables false
set_option linter.unusedSimpArgs false
set_option maxRecDepth 10000
namespace Go.Am.Ar
open Go.Am.PV renaming junk → Z
open Go.Am renaming pchk → P1,pold → P2,PKNo → P3,ppack → P4,PObj.under → P5,pput → P6,ptset → P7,ptget → P8,pev → P9,ofAV → P10,ofAV1 → P11,ppad → P12,pfill → P13,prepl → P14,AO.effect → P15
open List renaming replicate → L1
open Nat renaming reduceAdd → N1,reduceSub → N2,reduceMul → N3,reduceLT → N4,reduceLeDiff → N5,reduceEqDiff → N6,reduceBEq → N7
open Int renaming reduceToNat → I1,reduceLT → I2,reduceLE → I3,reduceEq → I4,reduceAdd → I5,reduceSub → I6,reduceNeg → I7
theorem mvL_af {N : NF} (C : NOk N) {p : Int} {x : Nat} {u : Int} : (x,u) ∈ mvL N.vs p N.es ↔ x < 2 ^ N.vs.toNat ∧ ∃ u' ∈ afM N [p] x,u = (u' : Int) := by
  unfold mvL
  rw [List.mem_flatMap]
  constructor
  · rintro ⟨e,he,h⟩
    unfold mvE at h
    split at h
    · rename_i hp
      obtain ⟨y,hy,e2⟩ := List.mem_map.1 h
      cases e2
      obtain ⟨h1,h2⟩ := List.mem_filter.1 hy
      obtain ⟨_,_,h3,h4,_⟩ := C.ed e he
      exact ⟨List.mem_range.1 h1,e.to.toNat,(afM_mem C).2 ⟨e,he,by omega,by simp [hp],h2⟩,by omega⟩
    · cases h
  · rintro ⟨hx,u',hu,rfl⟩
    obtain ⟨e,he,h1,h2,h3⟩ := (afM_mem C).1 hu
    refine ⟨e,he, ?_⟩
    unfold mvE
    rw [if_pos (by simpa using h2)]
    exact List.mem_map.2 ⟨x,List.mem_filter.2 ⟨List.mem_range.2 hx,h3⟩,by rw [h1]⟩
def HoldsR (N : NF) (r : Int → Int → Bool) (p q : Int) (x : Nat) : Prop := ∀ u ∈ afM N [p] x, ∃ v ∈ afM N [q] x,r (u : Int) (v : Int) = true
theorem holds_iff {N : NF} (C : NOk N) {r : Int → Int → Bool} {p q : Int} : HoldsP N r p q ↔ (p ∈ N.fi → q ∈ N.fi) ∧ ∀ x,x < 2 ^ N.vs.toNat → HoldsR N r p q x := by
  unfold HoldsP
  refine and_congr_right fun _ => ⟨fun h x hx u hu => ?_,fun h xu hxu => ?_⟩
  · obtain ⟨yv,h1,h2,h3⟩ := h (x,(u : Int)) ((mvL_af C).2 ⟨hx,u,hu,rfl⟩)
    obtain ⟨y,v⟩ := yv
    obtain ⟨_,v',hv,rfl⟩ := (mvL_af C).1 h1
    simp only at h2 h3
    subst h2
    exact ⟨v',hv,h3⟩
  · obtain ⟨x,u⟩ := xu
    obtain ⟨hx,u',hu,rfl⟩ := (mvL_af C).1 hxu
    obtain ⟨v,hv,h3⟩ := h x hx u' hu
    exact ⟨(x,(v : Int)),(mvL_af C).2 ⟨hx,v,hv,rfl⟩,rfl,h3⟩
theorem afM_lt {N : NF} (C : NOk N) {s : List Int} {x u : Nat} (h : u ∈ afM N s x) : (u : Int) < N.n := by
  obtain ⟨e,he,h1,_⟩ := (afM_mem C).1 h
  obtain ⟨_,_,_,h4,_⟩ := C.ed e he
  omega
section
variable {tab : FuncId → Option AF} (T : HasA tab)
include T
set_option maxHeartbeats 1000000 in
theorem refHolds_p {M : Mem} {K : PV → Mem → Prop} {f1 o1 f2 o2 f3 o3 f4 o4 f5 o5 : Bool} {N : NF} {rs : List (List Bool)} {p q : Nat} (C : NOk N) (B : BnN N) (D : DimOk N rs) (hp : (p : Int) < N.n) (hq : (q : Int) < N.n) (hk : ∀ b,(b = true ↔ HoldsP N (rAt rs) p q) → K (.bool b) M) :
    SemC tab 44 [.agg (nfC f1 o1 f2 o2 f3 o3 N),slBr f4 o4 f5 o5 rs,p64 p,p64 q] M K := by
  have n64 := C.n64
  have v0 := C.v0
  have v6 := C.v6
  have hfl : N.fi.length ≤ 64 := posM_len C.fi n64
  have hp64 := pow_le64 v6
  obtain ⟨Bd,hB⟩ : ∃ Bd : Nat,2 ^ N.vs.toNat = Bd := ⟨_,rfl⟩
  have hBi : (2 : Int) ^ N.vs.toNat = (Bd : Int) := by rw [← hB]; simp
  have hk' : ∀ b,(b = true ↔ ((p : Int) ∈ N.fi → (q : Int) ∈ N.fi) ∧ ∀ x,x < Bd → HoldsR N (rAt rs) p q x) → K (.bool b) M := fun b h => hk b (h.trans (by rw [holds_iff C,hB]))
  refine SemC_pureS T.h44 (by simp only [PP,P1,P2,P3,P4,P5,P6,P7,P8,P9,P10,P11,P12,P13,P14,L1,P15,N1,N2,N3,N4,N5,N6,N7,I1,I2,I3,I4,I5,I6,I7,reduceIte,reduceCtorEq,under_slE,under_slBr,PV.under,egL_und,brs_und]) ?_
  simp only [af44]
  refine SemW_seq (SemW_of ?_)
  simp only [PP,P1,P2,P3,P4,P5,P6,P7,P8,P9,P10,P11,P12,P13,P14,L1,P15,N1,N2,N3,N4,N5,N6,N7,I1,I2,I3,I4,I5,I6,I7,reduceIte,reduceCtorEq]
  refine SemW_re (GStep.freezeP (b := [Z,slBr f4 o4 f5 o5 rs,p64 p,p64 q,.cp (nfC f1 o1 f2 o2 f3 o3 N) 0,Z,Z,Z,.bool false,Z,Z,Z,Z,Z,Z,Z,Z,Z,Z,Z,Z,Z,Z,Z,Z,Z,Z,Z,Z,Z,Z,Z,Z,Z,Z,Z,Z,Z,Z,Z,Z,Z,Z,Z,Z,Z,Z,Z,Z,Z,Z,Z,Z,Z,Z,Z,Z,Z,Z,Z,Z,Z,Z,Z,Z,Z,Z,Z,Z,Z,Z,Z,Z,Z,Z]) 0 (Nat.zero_le _) rfl (by simp only [PFrzP_nil,PFrzP_junk,PFrzP_same,PFrzP_ptr]) rfl) ?_
  refine SemW_of ?_
  simp only [PP,P1,P2,P3,P4,P5,P6,P7,P8,P9,P10,P11,P12,P13,P14,L1,P15,N1,N2,N3,N4,N5,N6,N7,I1,I2,I3,I4,I5,I6,I7,reduceIte,reduceCtorEq]
  refine hasInt_p T (by show _ < 1000000000000; omega) ?_
  by_cases c1 : (p : Int) ∈ N.fi ∧ ¬ (q : Int) ∈ N.fi
  · simp only [PP,P1,P2,P3,P4,P5,P6,P7,P8,P9,P10,P11,P12,P13,P14,L1,P15,N1,N2,N3,N4,N5,N6,N7,I1,I2,I3,I4,I5,I6,I7,reduceIte,reduceCtorEq,c1.1]
    refine hasInt_p T (by show _ < 1000000000000; omega) ?_
    simp only [PP,P1,P2,P3,P4,P5,P6,P7,P8,P9,P10,P11,P12,P13,P14,L1,P15,N1,N2,N3,N4,N5,N6,N7,I1,I2,I3,I4,I5,I6,I7,reduceIte,reduceCtorEq,c1.2]
    exact hk' false ⟨(fun h => by cases h),fun h => absurd (h.1 c1.1) c1.2⟩
  have hpq : (p : Int) ∈ N.fi → (q : Int) ∈ N.fi := fun h => Classical.byContradiction fun h2 => c1 ⟨h,h2⟩
  by_cases c2 : (p : Int) ∈ N.fi
  rotate_left
  all_goals
    simp only [PP,P1,P2,P3,P4,P5,P6,P7,P8,P9,P10,P11,P12,P13,P14,L1,P15,N1,N2,N3,N4,N5,N6,N7,I1,I2,I3,I4,I5,I6,I7,reduceIte,reduceCtorEq,c2]
    first
    | (refine hasInt_p T (by show _ < 1000000000000; omega) ?_; have c3 := hpq c2; simp only [PP,P1,P2,P3,P4,P5,P6,P7,P8,P9,P10,P11,P12,P13,P14,L1,P15,N1,N2,N3,N4,N5,N6,N7,I1,I2,I3,I4,I5,I6,I7,reduceIte,reduceCtorEq,c3])
    | skip
    refine loop1 (fun (x : Nat) => x ≤ Bd ∧ ∀ y,y < x → HoldsR N (rAt rs) p q y) (fun x => [Z,slBr f4 o4 f5 o5 rs,p64 p,p64 q,.cp (nfC f1 o1 f2 o2 f3 o3 N) 0,Z,Z,Z,Z,p64 x,Z,Z,Z,Z,Z,Z,Z,Z,Z,Z,Z,Z,Z,Z,Z,Z,Z,Z,Z,Z,Z,Z,Z,Z,Z,Z,Z,Z,Z,Z,Z,Z,Z,Z,Z,Z,Z,Z,Z,Z,Z,Z,Z,Z,Z,Z,Z,Z,Z,Z,Z,Z,Z,Z,Z,Z,Z,Z,Z,Z,Z,Z,Z,Z,Z]) (fun _ => [.gone]) (fun x => Bd - x) 0 ⟨by omega,fun y h => by omega⟩ (by simp only [PWeak_nil,PWeak_junk,PWeak_same,Int.cast_ofNat_Int,List.length_append,List.length_cons,List.length_nil,Nat.zero_add]) rfl ?_
    intro x ⟨hx,hd⟩ ih
    refine SemW_go (by kernel_rfl) ?_
    simp only [PP,P1,P2,P3,P4,P5,P6,P7,P8,P9,P10,P11,P12,P13,P14,L1,P15,N1,N2,N3,N4,N5,N6,N7,I1,I2,I3,I4,I5,I6,I7,reduceIte,reduceCtorEq]
    refine letters_p T (by omega) (by omega) ?_
    rw [hBi]
    simp only [PP,P1,P2,P3,P4,P5,P6,P7,P8,P9,P10,P11,P12,P13,P14,L1,P15,N1,N2,N3,N4,N5,N6,N7,I1,I2,I3,I4,I5,I6,I7,reduceIte,reduceCtorEq]
    refine QIf.intro (fun c => ?_) (fun c => ?_)
    rotate_left
    · simp only [PP,P1,P2,P3,P4,P5,P6,P7,P8,P9,P10,P11,P12,P13,P14,L1,P15,N1,N2,N3,N4,N5,N6,N7,I1,I2,I3,I4,I5,I6,I7,reduceIte,reduceCtorEq,c]
      exact hk' true ⟨fun _ => ⟨hpq,fun y hy => hd y (by omega)⟩,fun _ => rfl⟩
    have hxB : x < Bd := by omega
    have hwx := wrap_succ (k := x) (by show _ < 1000000000000; omega)
    have w8 : IntKind.u8.wrap (x : Int) = x := wrap8 (by omega)
    simp only [PP,P1,P2,P3,P4,P5,P6,P7,P8,P9,P10,P11,P12,P13,P14,L1,P15,N1,N2,N3,N4,N5,N6,N7,I1,I2,I3,I4,I5,I6,I7,reduceIte,reduceCtorEq,c,w8]
    refine after_p T (s := [(p : Int)]) C B (by show _ < 1000000000000; simp) (by omega) ?_
    simp only [PP,P1,P2,P3,P4,P5,P6,P7,P8,P9,P10,P11,P12,P13,P14,L1,P15,N1,N2,N3,N4,N5,N6,N7,I1,I2,I3,I4,I5,I6,I7,reduceIte,reduceCtorEq,w8]
    refine after_p T (s := [(q : Int)]) C B (by show _ < 1000000000000; simp) (by omega) ?_
    obtain ⟨la,hla⟩ : ∃ la,la = afM N [(p : Int)] x := ⟨_,rfl⟩
    obtain ⟨lb,hlb⟩ : ∃ lb,lb = afM N [(q : Int)] x := ⟨_,rfl⟩
    have hlal : la.length ≤ 64 := by rw [hla]; have := afM_len N [(p : Int)] x; omega
    have hlbl : lb.length ≤ 64 := by rw [hlb]; have := afM_len N [(q : Int)] x; omega
    rw [← hla, ← hlb]
    simp only [PP,P1,P2,P3,P4,P5,P6,P7,P8,P9,P10,P11,P12,P13,P14,L1,P15,N1,N2,N3,N4,N5,N6,N7,I1,I2,I3,I4,I5,I6,I7,reduceIte,reduceCtorEq]
    refine loop1 (fun (i : Nat) => i ≤ la.length ∧ ∀ j u,j < i → la[j]? = some u → ∃ v ∈ lb,rAt rs (u : Int) (v : Int) = true) (fun i => [Z,slBr f4 o4 f5 o5 rs,p64 p,p64 q,.cp (nfC f1 o1 f2 o2 f3 o3 N) 0,Z,Z,Z,Z,p64 x,slI false true .i64 (natI la),slI false true .i64 (natI lb),p64 i,Z,Z,Z,Z,Z,Z,Z,Z,Z,Z,Z,Z,Z,Z,Z,Z,Z,Z,Z,Z,Z,Z,Z,Z,Z,Z,Z,Z,Z,Z,Z,Z,Z,Z,Z,Z,Z,Z,Z,Z,Z,Z,Z,Z,Z,Z,Z,Z,Z,Z,Z,Z,Z,Z,Z,Z,Z,Z,Z,Z,Z,Z]) (fun _ => [.gone]) (fun i => la.length - i) 0 ⟨by omega,fun j u h => by omega⟩ (by simp only [PWeak_nil,PWeak_junk,PWeak_same,Int.cast_ofNat_Int,List.length_append,List.length_cons,List.length_nil,Nat.zero_add]) rfl ?_
    intro i ⟨hi,hd2⟩ ih2
    refine SemW_go (by kernel_rfl) ?_
    simp only [PP,P1,P2,P3,P4,P5,P6,P7,P8,P9,P10,P11,P12,P13,P14,L1,P15,N1,N2,N3,N4,N5,N6,N7,I1,I2,I3,I4,I5,I6,I7,reduceIte,reduceCtorEq]
    refine QIf.intro (fun d => ?_) (fun d => ?_)
    rotate_left
    · have hil : i = la.length := by omega
      subst hil
      simp only [PP,P1,P2,P3,P4,P5,P6,P7,P8,P9,P10,P11,P12,P13,P14,L1,P15,N1,N2,N3,N4,N5,N6,N7,I1,I2,I3,I4,I5,I6,I7,reduceIte,reduceCtorEq,d,hwx]
      refine SemW_weak (ih (x + 1) ⟨by omega,fun y hy => ?_⟩ (by omega)) (by simp only [PWeak_nil,PWeak_junk,PWeak_same,Int.cast_ofNat_Int,List.length_append,List.length_cons,List.length_nil,Nat.zero_add])
      by_cases e : y = x
      · subst e
        intro u hu
        rw [← hla] at hu
        rw [← hlb]
        obtain ⟨j,hj⟩ := List.getElem?_of_mem hu
        exact hd2 j u (getSome_lt hj) hj
      · exact hd y (by omega)
    have hi' : i < la.length := by omega
    obtain ⟨u,gu⟩ := some_of (xs := la) (k := i) hi'
    have gu2 : (natI la)[i]? = some (u : Int) := by rw [List.getElem?_map,gu]; rfl
    have hu : (u : Int) < N.n := by
      have := List.mem_of_getElem? gu
      rw [hla] at this
      exact afM_lt C this
    have i0 : (0 : Int) ≤ i := by omega
    have il : (i : Int) < la.length := by omega
    have hwi := wrap_succ (k := i) (by show _ < 1000000000000; omega)
    obtain ⟨row,grow⟩ := some_of (xs := rs) (k := u) (by have := D.1; omega)
    have hrl := D.2 row (List.mem_of_getElem? grow)
    have u0 : (0 : Int) ≤ u := by omega
    have ul : (u : Int) < rs.length := by have := D.1; omega
    simp only [PP,P1,P2,P3,P4,P5,P6,P7,P8,P9,P10,P11,P12,P13,P14,L1,P15,N1,N2,N3,N4,N5,N6,N7,I1,I2,I3,I4,I5,I6,I7,reduceIte,reduceCtorEq,d]
    refine loop2 (fun (k : Nat) (found : Bool) => k ≤ lb.length ∧ (found = true ↔ ∃ j v,j < k ∧ lb[j]? = some v ∧ rAt rs (u : Int) (v : Int) = true)) (fun k found => [Z,slBr f4 o4 f5 o5 rs,p64 p,p64 q,.cp (nfC f1 o1 f2 o2 f3 o3 N) 0,Z,Z,Z,Z,p64 x,slI false true .i64 (natI la),slI false true .i64 (natI lb),p64 i,.bool found,p64 k,Z,Z,Z,Z,Z,Z,Z,Z,Z,Z,Z,Z,Z,Z,Z,Z,Z,Z,Z,Z,Z,Z,Z,Z,Z,Z,Z,Z,Z,Z,Z,Z,Z,Z,Z,Z,Z,Z,Z,Z,Z,Z,Z,Z,Z,Z,Z,Z,Z,Z,Z,Z,Z,Z,Z,Z,Z,Z,Z,Z]) (fun _ _ => [.gone]) (fun k _ => lb.length - k) 0 false ⟨by omega,⟨(fun h => by cases h),fun ⟨j,v,h,_⟩ => by omega⟩⟩ (by simp only [PWeak_nil,PWeak_junk,PWeak_same,Int.cast_ofNat_Int,List.length_append,List.length_cons,List.length_nil,Nat.zero_add]) rfl ?_
    intro k found ⟨hkl,hf⟩ ih3
    refine SemW_go (by kernel_rfl) ?_
    simp only [PP,P1,P2,P3,P4,P5,P6,P7,P8,P9,P10,P11,P12,P13,P14,L1,P15,N1,N2,N3,N4,N5,N6,N7,I1,I2,I3,I4,I5,I6,I7,reduceIte,reduceCtorEq]
    refine QIf.intro (fun g => ?_) (fun g => ?_)
    · have hk2 : k < lb.length := by omega
      obtain ⟨v,gv⟩ := some_of (xs := lb) (k := k) hk2
      have gv2 : (natI lb)[k]? = some (v : Int) := by rw [List.getElem?_map,gv]; rfl
      have hv : (v : Int) < N.n := by
        have := List.mem_of_getElem? gv
        rw [hlb] at this
        exact afM_lt C this
      have k0 : (0 : Int) ≤ k := by omega
      have kl : (k : Int) < lb.length := by omega
      have hwk := wrap_succ (k := k) (by show _ < 1000000000000; omega)
      obtain ⟨b,gb⟩ := some_of (xs := row) (k := v) (by omega)
      have v0' : (0 : Int) ≤ v := by omega
      have vl : (v : Int) < row.length := by omega
      have hrv : rAt rs (u : Int) (v : Int) = b := by simp [rAt,List.getD,grow,gb]
      have hstep : ((found || b) = true ↔ ∃ j v,j < k + 1 ∧ lb[j]? = some v ∧ rAt rs (u : Int) (v : Int) = true) := by
        rw [Bool.or_eq_true,hf]
        constructor
        · rintro (⟨j,v',h1,h2,h3⟩ | h)
          · exact ⟨j,v',by omega,h2,h3⟩
          · exact ⟨k,v,by omega,gv,by rw [hrv]; exact h⟩
        · rintro ⟨j,v',h1,h2,h3⟩
          by_cases e : j = k
          · subst e; rw [gv] at h2; cases h2; exact .inr (by rw [← hrv]; exact h3)
          · exact .inl ⟨j,v',by omega,h2,h3⟩
      cases found with
      | true =>
        simp only [PP,P1,P2,P3,P4,P5,P6,P7,P8,P9,P10,P11,P12,P13,P14,L1,P15,N1,N2,N3,N4,N5,N6,N7,I1,I2,I3,I4,I5,I6,I7,reduceIte,reduceCtorEq,g,hwk]
        exact SemW_weak (ih3 (k + 1) true ⟨by omega,by simpa using hstep⟩ (by omega)) (by simp only [PWeak_nil,PWeak_junk,PWeak_same,Int.cast_ofNat_Int,List.length_append,List.length_cons,List.length_nil,Nat.zero_add])
      | false =>
        simp only [PP,P1,P2,P3,P4,P5,P6,P7,P8,P9,P10,P11,P12,P13,P14,L1,P15,N1,N2,N3,N4,N5,N6,N7,I1,I2,I3,I4,I5,I6,I7,reduceIte,reduceCtorEq,g,i0,il,gu2,u0,ul,grow,k0,kl,gv2,v0',vl,gb,hwk]
        exact SemW_weak (ih3 (k + 1) b ⟨by omega,by simpa using hstep⟩ (by omega)) (by simp only [PWeak_nil,PWeak_junk,PWeak_same,Int.cast_ofNat_Int,List.length_append,List.length_cons,List.length_nil,Nat.zero_add])
    · have hkl2 : k = lb.length := by omega
      subst hkl2
      cases found with
      | true =>
        simp only [PP,P1,P2,P3,P4,P5,P6,P7,P8,P9,P10,P11,P12,P13,P14,L1,P15,N1,N2,N3,N4,N5,N6,N7,I1,I2,I3,I4,I5,I6,I7,reduceIte,reduceCtorEq,g,hwi]
        obtain ⟨j,v,h1,h2,h3⟩ := hf.1 rfl
        refine SemW_weak (ih2 (i + 1) ⟨by omega,fun j' u' h4 h5 => ?_⟩ (by omega)) (by simp only [PWeak_nil,PWeak_junk,PWeak_same,Int.cast_ofNat_Int,List.length_append,List.length_cons,List.length_nil,Nat.zero_add])
        by_cases e : j' = i
        · subst e; rw [gu] at h5; cases h5; exact ⟨v,List.mem_of_getElem? h2,h3⟩
        · exact hd2 j' u' (by omega) h5
      | false =>
        simp only [PP,P1,P2,P3,P4,P5,P6,P7,P8,P9,P10,P11,P12,P13,P14,L1,P15,N1,N2,N3,N4,N5,N6,N7,I1,I2,I3,I4,I5,I6,I7,reduceIte,reduceCtorEq,g]
        refine hk' false ⟨(fun h => by cases h),fun h => ?_⟩
        obtain ⟨v,hv,h3⟩ := h.2 x hxB u (by rw [← hla]; exact List.mem_of_getElem? gu)
        rw [← hlb] at hv
        obtain ⟨j,hj⟩ := List.getElem?_of_mem hv
        exact hf.2 ⟨j,v,getSome_lt hj,hj,h3⟩
end
end Go.Am.Ar
set_option linter.unusedVariables false
namespace Go.Am.Ar
open Go.Am.PV renaming junk → Z
def setAt (rs : List (List Bool)) (p q : Nat) : List (List Bool) := rs.set p ((rs.getD p []).set q false)
def cntR : List (List Bool) → Nat
  | [] => 0
  | r :: l => r.count true + cntR l
theorem count_set {r : List Bool} : ∀ {q : Nat},r[q]? = some true → (r.set q false).count true < r.count true := by
  induction r with
  | nil => intro q h; simp at h
  | cons x r ih =>
    intro q h
    cases q with
    | zero =>
      simp only [List.getElem?_cons_zero,Option.some.injEq] at h
      subst h
      simp [List.count_cons]
    | succ q =>
      have := ih (q := q) (by simpa using h)
      simp only [List.set_cons_succ,List.count_cons]
      omega
theorem cntR_set : ∀ {rs : List (List Bool)} {p : Nat} {r r' : List Bool},rs[p]? = some r → r'.count true < r.count true → cntR (rs.set p r') < cntR rs
  | [],p,r,r',h,_ => by simp at h
  | x :: rs,0,r,r',h,hc => by
    simp only [List.getElem?_cons_zero,Option.some.injEq] at h
    subst h
    simp only [List.set_cons_zero,cntR]; omega
  | x :: rs,p + 1,r,r',h,hc => by
    have := cntR_set (rs := rs) (p := p) (by simpa using h) hc
    simp only [List.set_cons_succ,cntR]; omega
theorem cntR_setAt {rs : List (List Bool)} {p q : Nat} (h : rAt rs p q = true) : cntR (setAt rs p q) < cntR rs := by
  unfold rAt at h
  simp only [Int.toNat_natCast] at h
  have hp : p < rs.length := Nat.lt_of_not_le fun hp => by
    have e : rs.getD p [] = [] := by simp [List.getD,List.getElem?_eq_none hp]
    rw [e] at h; simp at h
  obtain ⟨r,hr⟩ : ∃ r,rs[p]? = some r := ⟨_,List.getElem?_eq_getElem hp⟩
  have e : rs.getD p [] = r := by simp [List.getD,hr]
  rw [e] at h
  unfold setAt
  rw [e]
  refine cntR_set hr (count_set ?_)
  cases hq : r[q]? with
  | none => rw [List.getD,hq] at h; cases h
  | some b => rw [List.getD,hq] at h; simp at h; rw [h]
theorem rAt_setAt {rs : List (List Bool)} {p q u v : Nat} (hp : p < rs.length) (hq : q < (rs.getD p []).length) : rAt (setAt rs p q) u v = if u = p ∧ v = q then false else rAt rs u v := by
  unfold rAt setAt
  simp only [Int.toNat_natCast]
  by_cases e : u = p
  · subst e
    have h1 : (rs.set u ((rs.getD u []).set q false)).getD u [] = (rs.getD u []).set q false := by simp [List.getD,hp]
    rw [h1]
    by_cases e2 : v = q
    · subst e2
      rw [if_pos ⟨rfl,rfl⟩,List.getD,List.getElem?_set_self hq]; rfl
    · rw [if_neg (fun h => e2 h.2),List.getD,List.getElem?_set_ne (Ne.symm e2)]; rfl
  · have h1 : (rs.set p ((rs.getD p []).set q false)).getD u [] = rs.getD u [] := by simp [List.getD,List.getElem?_set_ne (Ne.symm e)]
    rw [h1,if_neg (fun h => e h.1)]
theorem HoldsP.mono {N : NF} (C : NOk N) {r r' : Int → Int → Bool} {p q : Int} (hle : ∀ u v : Nat,(u : Int) < N.n → (v : Int) < N.n → r u v = true → r' u v = true) (h : HoldsP N r p q) : HoldsP N r' p q := by
  refine ⟨h.1,fun xu hxu => ?_⟩
  obtain ⟨yv,h1,h2,h3⟩ := h.2 xu hxu
  obtain ⟨x,u⟩ := xu
  obtain ⟨y,v⟩ := yv
  obtain ⟨_,u0,un⟩ := mvL_ok C hxu
  obtain ⟨_,v0,vn⟩ := mvL_ok C h1
  refine ⟨(y,v),h1,h2, ?_⟩
  have := hle u.toNat v.toNat (by omega) (by omega) (by rw [Int.toNat_of_nonneg u0,Int.toNat_of_nonneg v0]; exact h3)
  rw [Int.toNat_of_nonneg u0,Int.toNat_of_nonneg v0] at this
  exact this
def UpR (N : NF) (rs : List (List Bool)) : Prop := ∀ S : Int → Int → Bool,SimR N S → ∀ p q : Nat,(p : Int) < N.n → (q : Int) < N.n → S p q = true → rAt rs p q = true
structure RelOk (N : NF) (rs : List (List Bool)) : Prop where
  d : DimOk N rs
  s : SimR N (rAt rs)
  u : UpR N rs
theorem dim_setAt {N : NF} {rs : List (List Bool)} (D : DimOk N rs) (p q : Nat) : DimOk N (setAt rs p q) := by
  refine ⟨by unfold setAt; rw [List.length_set]; exact D.1,fun r hr => ?_⟩
  unfold setAt at hr
  rcases List.mem_or_eq_of_mem_set hr with h | h
  · exact D.2 r h
  · subst h
    rw [List.length_set]
    by_cases hp : p < rs.length
    · refine D.2 _ ?_
      rw [List.getD,List.getElem?_eq_getElem hp]; exact List.getElem_mem hp
    · exfalso
      rw [List.set_eq_of_length_le (by omega)] at hr
      have := D.2 _ hr
      rw [List.length_set,List.getD,List.getElem?_eq_none (by omega)] at this
      simp at this
      have := D.1
      obtain ⟨j,hj⟩ := List.getElem?_of_mem hr
      have := getSome_lt hj
      omega
theorem row_len {N : NF} {rs : List (List Bool)} (D : DimOk N rs) {p : Nat} (hp : (p : Int) < N.n) : ((rs.getD p []).length : Int) = N.n := by
  have h : p < rs.length := by have := D.1; omega
  refine D.2 _ ?_
  rw [List.getD,List.getElem?_eq_getElem h]; exact List.getElem_mem h
theorem UpR.prune {N : NF} (C : NOk N) {rs : List (List Bool)} (D : DimOk N rs) (U : UpR N rs) {p q : Nat} (hp : (p : Int) < N.n) (hq : (q : Int) < N.n) (h : ¬ HoldsP N (rAt rs) p q) : UpR N (setAt rs p q) := by
  intro S hS u v hu hv hs
  have h1 := U S hS u v hu hv hs
  rw [rAt_setAt (by have := D.1; omega) (by have := row_len D hp; omega)]
  split
  · rename_i e
    obtain ⟨rfl,rfl⟩ := e
    exact absurd ((hS u v hu hv hs).mono C fun a b ha hb hab => U S hS a b ha hb hab) h
  · exact h1
theorem RelOk.unique {N : NF} (C : NOk N) {rs rs' : List (List Bool)} (h : RelOk N rs) (h' : RelOk N rs') : rs = rs' := by
  have n0 := C.n0
  refine List.ext_getElem? fun p => ?_
  by_cases hp : (p : Int) < N.n
  · have h1 : p < rs.length := by have := h.d.1; omega
    have h2 : p < rs'.length := by have := h'.d.1; omega
    rw [List.getElem?_eq_getElem h1,List.getElem?_eq_getElem h2]
    congr 1
    refine List.ext_getElem? fun q => ?_
    have l1 := h.d.2 _ (List.getElem_mem h1)
    have l2 := h'.d.2 _ (List.getElem_mem h2)
    by_cases hq : (q : Int) < N.n
    · have q1 : q < (rs[p]).length := by omega
      have q2 : q < (rs'[p]).length := by omega
      rw [List.getElem?_eq_getElem q1,List.getElem?_eq_getElem q2]
      congr 1
      have e1 : rAt rs p q = (rs[p])[q] := by simp [rAt,List.getD,h1,q1]
      have e2 : rAt rs' p q = (rs'[p])[q] := by simp [rAt,List.getD,h2,q2]
      rw [← e1, ← e2,Bool.eq_iff_iff]
      exact ⟨fun z => h'.u _ h.s p q hp hq z,fun z => h.u _ h'.s p q hp hq z⟩
    · rw [List.getElem?_eq_none (by omega),List.getElem?_eq_none (by omega)]
  · have := h.d.1
    have := h'.d.1
    rw [List.getElem?_eq_none (by omega),List.getElem?_eq_none (by omega)]
def allT (n : Nat) : List (List Bool) := List.replicate n (List.replicate n true)
theorem allT_dim {N : NF} {n : Nat} (h : N.n = n) : DimOk N (allT n) := by
  refine ⟨by simp [allT,h],fun r hr => ?_⟩
  rw [List.eq_of_mem_replicate hr]; simp [h]
theorem allT_up {N : NF} {n : Nat} (h : N.n = n) : UpR N (allT n) := by
  intro S _ p q hp hq _
  have h1 : p < n := by omega
  have h2 : q < n := by omega
  simp [rAt,allT,List.getD,h1,h2]
structure PrI (N : NF) (rs0 rs : List (List Bool)) (ch : Bool) (done : Nat → Nat → Prop) : Prop where
  d : DimOk N rs
  u : UpR N rs
  no : ch = false → rs = rs0 ∧ ∀ p q,done p q → rAt rs p q = true → HoldsP N (rAt rs) p q
  ye : ch = true → cntR rs < cntR rs0
section
variable {N : NF} {rs0 rs : List (List Bool)} {ch : Bool} {done done' : Nat → Nat → Prop} {p q : Nat}
theorem PrI.start (D : DimOk N rs0) (U : UpR N rs0) : PrI N rs0 rs0 false (fun _ _ => False) := ⟨D,U,fun _ => ⟨rfl,fun _ _ h => h.elim⟩,fun h => by cases h⟩
theorem PrI.weak (I : PrI N rs0 rs ch done) (h : ∀ p q,done' p q → done p q) : PrI N rs0 rs ch done' := ⟨I.d,I.u,fun e => ⟨(I.no e).1,fun p q hd => (I.no e).2 p q (h p q hd)⟩,I.ye⟩
theorem PrI.keep (I : PrI N rs0 rs ch done) (h : rAt rs p q = true → HoldsP N (rAt rs) p q) : PrI N rs0 rs ch (fun u v => done u v ∨ (u = p ∧ v = q)) :=
  ⟨I.d,I.u,fun e => ⟨(I.no e).1,fun u v hd hr => hd.elim (fun z => (I.no e).2 u v z hr) fun ⟨e1,e2⟩ => by subst e1; subst e2; exact h hr⟩,I.ye⟩
theorem PrI.cut (C : NOk N) (I : PrI N rs0 rs ch done) (hp : (p : Int) < N.n) (hq : (q : Int) < N.n) (hr : rAt rs p q = true) (h : ¬ HoldsP N (rAt rs) p q) : PrI N rs0 (setAt rs p q) true done' := by
  have hc := cntR_setAt hr
  refine ⟨dim_setAt I.d p q,I.u.prune C I.d hp hq h,(fun e => by cases e),fun _ => ?_⟩
  cases hch : ch with
  | false => rw [(I.no hch).1] at hc ⊢; exact hc
  | true => have := I.ye hch; omega
end
theorem PrI.fin {N : NF} {rs0 rs : List (List Bool)} (I : PrI N rs0 rs false (fun u v => (u : Int) < N.n ∧ (v : Int) < N.n)) : RelOk N rs :=
  ⟨I.d,fun p q hp hq hr => (I.no rfl).2 p q ⟨hp,hq⟩ hr,I.u⟩
theorem id_sim (N : NF) : SimR N (fun p q => decide (p = q)) := fun p q _ _ h => by
  have e : (p : Int) = q := of_decide_eq_true h
  rw [e]
  exact ⟨fun z => z,fun xu hxu => ⟨xu,hxu,rfl,by simp⟩⟩
theorem cntR_pos {N : NF} {rs : List (List Bool)} (U : UpR N rs) (h : 0 < N.n) : 0 < cntR rs := by
  have := U _ (id_sim N) 0 0 (by omega) (by omega) (by simp)
  have := cntR_setAt this
  omega
end Go.Am.Ar
set_option linter.unusedVariables false
set_option linter.unusedSimpArgs false
set_option maxRecDepth 10000
namespace Go.Am.Ar
open Go.Am.PV renaming junk → Z
open Go.Am renaming pchk → P1,pold → P2,PKNo → P3,ppack → P4,PObj.under → P5,pput → P6,ptset → P7,ptget → P8,pev → P9,ofAV → P10,ofAV1 → P11,ppad → P12,pfill → P13,prepl → P14,AO.effect → P15
open List renaming replicate → L1
open Nat renaming reduceAdd → N1,reduceSub → N2,reduceMul → N3,reduceLT → N4,reduceLeDiff → N5,reduceEqDiff → N6,reduceBEq → N7
open Int renaming reduceToNat → I1,reduceLT → I2,reduceLE → I3,reduceEq → I4,reduceAdd → I5,reduceSub → I6,reduceNeg → I7
section
variable {tab : FuncId → Option AF} (T : HasA tab)
include T
end
end Go.Am.Ar
set_option linter.unusedVariables false
set_option linter.unusedSimpArgs false
set_option maxRecDepth 10000
namespace Go.Am.Ar
open Go.Am.PV renaming junk → Z
open Go.Am renaming pchk → P1,pold → P2,PKNo → P3,ppack → P4,PObj.under → P5,pput → P6,ptset → P7,ptget → P8,pev → P9,ofAV → P10,ofAV1 → P11,ppad → P12,pfill → P13,prepl → P14,AO.effect → P15
open List renaming replicate → L1
open Nat renaming reduceAdd → N1,reduceSub → N2,reduceMul → N3,reduceLT → N4,reduceLeDiff → N5,reduceEqDiff → N6,reduceBEq → N7
open Int renaming reduceToNat → I1,reduceLT → I2,reduceLE → I3,reduceEq → I4,reduceAdd → I5,reduceSub → I6,reduceNeg → I7
def rowsO (l : List (Nat × List Bool)) : Mem := l.map fun x => .cells 0 x.1 (x.2.map PV.bool)
def refsR (b n : Nat) : List PV := tabA n fun u => PV.ref (u + b) 0 1 0 n
abbrev rsO (l : List (Nat × List Bool)) : List (List Bool) := l.map Prod.snd
theorem rowsO_at {l : List (Nat × List Bool)} {p v : Nat} {r : List Bool} (h : l[p]? = some (v,r)) (X : Mem) : (rowsO l ++ X)[p]? = some (.cells 0 v (r.map PV.bool)) := by
  have hp := getSome_lt h
  rw [List.getElem?_append_left (by simp [rowsO]; exact hp)]
  simp [rowsO,h]
theorem rowsO_set {l : List (Nat × List Bool)} {p : Nat} (hp : p < l.length) (v : Nat) (r : List Bool) (X : Mem) : (rowsO l ++ X).set p (.cells 0 v (r.map PV.bool)) = rowsO (l.set p (v,r)) ++ X := by
  rw [List.set_append_left _ _ (by simp [rowsO]; exact hp)]
  simp [rowsO,List.map_set]
theorem refsR_at {b n p : Nat} (h : p < n) : (refsR b n)[p]? = some (.ref (p + b) 0 1 0 n) := tabA_get h
theorem refsR_len (b n : Nat) : (refsR b n).length = n := tabA_len _ _
theorem rsO_setAt {l : List (Nat × List Bool)} {p q v : Nat} {r : List Bool} (h : l[p]? = some (v,r)) : setAt (rsO l) p q = rsO (l.set p (v + 1,r.set q false)) := by
  unfold setAt rsO
  rw [List.map_set]
  congr 2
  simp [List.getD,h]
theorem PBor.refs {M : Mem} {b n : Nat} : ∀ (l : List (List Bool)) (i : Nat),(∀ j r,l[j]? = some r → r.length = n ∧ ∃ v,M[i + j + b]? = some (.cells 0 v (r.map PV.bool))) → PBor M ((List.range' i l.length).map fun u => PV.ref (u + b) 0 1 0 n) (l.map (slB true false))
  | [],i,_ => .nil
  | r :: l,i,h => by
    obtain ⟨h1,v,h2⟩ := h 0 r rfl
    subst h1
    refine .ref h2 (by simp) (underL_map _ _ (fun _ => by simp [PV.under]) _) (psub_all _ _ (by simp)) (PBor.refs l (i + 1) fun j r' hr => ?_)
    have := h (j + 1) r' (by simpa using hr)
    rw [show i + 1 + j + b = i + (j + 1) + b by omega]
    exact this
theorem PBor.mat {M : Mem} {g ver b n : Nat} {l : List (List Bool)} {a c : List PV} {id : Nat} (hl : l.length = n) (hM : M[id]? = some (.cells g ver (refsR b n))) (h : ∀ j r,l[j]? = some r → r.length = n ∧ ∃ v,M[j + b]? = some (.cells 0 v (r.map PV.bool))) (ht : PBor M a c) : PBor M (.ref id g 1 0 n :: a) (slBr true false true false l :: c) := by
  subst hl
  refine .nest hM (by rw [refsR_len]; omega) ?_ ht
  rw [Nat.mul_one,psub_all _ _ (refsR_len _ _).symm]
  have := PBor.refs (M := M) (b := b) (n := l.length) l 0 fun j r hr => by rw [Nat.zero_add]; exact h j r hr
  unfold refsR tabA
  rw [List.range_eq_range']
  exact this
section
variable {tab : FuncId → Option AF} (T : HasA tab)
include T
abbrev stP (vR n : Nat) (l : List (Nat × List Bool)) (X : Mem) : Mem := .gone :: .cells 0 vR (refsR 3 n) :: .cells 0 1 [.ref 1 0 1 0 n] :: (rowsO l ++ X)
set_option maxHeartbeats 1000000 in
theorem prune_p {K : PV → Mem → Prop} {f1 o1 f2 o2 f3 o3 f6 o6 : Bool} {N : NF} {n vR : Nat} {l0 : List (Nat × List Bool)} {fa : Wd} {X : Mem} (C : NOk N) (B : BnN N) (hn : N.n = n) (hfa : fa.length ≤ 64) (hbit : ∀ k,bit fa k = decide ((k : Int) ∈ N.fi)) (D0 : DimOk N (rsO l0)) (U0 : UpR N (rsO l0))
    (hk : ∀ l ch,PrI N (rsO l0) (rsO l) ch (fun u v => (u : Int) < N.n ∧ (v : Int) < N.n) → K (.bool ch) (stP vR n l X)) :
    SemC tab 75 [.ptr 2 0 0,.cp (nfC f1 o1 f2 o2 f3 o3 N) 0,.cp [slW f6 o6 fa] 0] (stP vR n l0 X) K := by
  have n64 := C.n64
  refine SemC_fn T.h75 ?_
  simp only [af75,PP,P1,P2,P3,P4,P5,P6,P7,P8,P9,P10,P11,P12,P13,P14,L1,P15,N1,N2,N3,N4,N5,N6,N7,I1,I2,I3,I4,I5,I6,I7,reduceIte,reduceCtorEq]
  refine loop3 (fun (k : Nat) (ch : Bool) (l : List (Nat × List Bool)) => k ≤ n ∧ PrI N (rsO l0) (rsO l) ch (fun u v => u < k ∧ (v : Int) < N.n)) (fun k ch l => [.ptr 2 0 0,.cp (nfC f1 o1 f2 o2 f3 o3 N) 0,.cp [slW f6 o6 fa] 0,.bool ch,Z,Z,Z,Z,.ref 1 0 1 0 n,p64 n,p64 k,Z,Z,Z,Z,Z,Z,Z,Z,Z,Z,Z,Z,Z,Z,Z,Z,Z,Z,Z,Z,Z,Z,Z,Z,Z,Z,Z,Z,Z,Z]) (fun _ _ l => stP vR n l X) (fun k _ _ => n - k) 0 false l0 ⟨by omega,(PrI.start D0 U0).weak fun p q h => by omega⟩ (by simp only [PWeak_nil,PWeak_junk,PWeak_same,Int.cast_ofNat_Int,List.length_append,List.length_cons,List.length_nil,Nat.zero_add]) rfl ?_
  intro k ch l ⟨hkn,I⟩ ih
  have hll : l.length = n := by have := I.d.1; simp only [List.length_map] at this; omega
  refine SemW_go (by kernel_rfl) ?_
  simp only [PP,P1,P2,P3,P4,P5,P6,P7,P8,P9,P10,P11,P12,P13,P14,L1,P15,N1,N2,N3,N4,N5,N6,N7,I1,I2,I3,I4,I5,I6,I7,reduceIte,reduceCtorEq]
  refine QIf.intro (fun c => ?_) (fun c => ?_)
  rotate_left
  · simp only [PP,P1,P2,P3,P4,P5,P6,P7,P8,P9,P10,P11,P12,P13,P14,L1,P15,N1,N2,N3,N4,N5,N6,N7,I1,I2,I3,I4,I5,I6,I7,reduceIte,reduceCtorEq,c]
    exact hk l ch (I.weak fun p q h => ⟨by omega,h.2⟩)
  have hk' : k < n := by omega
  have k0 : (0 : Int) ≤ k := by omega
  have hwk := wrap_succ (k := k) (by show _ < 1000000000000; omega)
  have hrk := refsR_at (b := 3) hk'
  have hrl := refsR_len 3 n
  obtain ⟨⟨v0,row0⟩,hlk⟩ := some_of (xs := l) (k := k) (by omega)
  have hat := rowsO_at hlk X
  simp only [PP,P1,P2,P3,P4,P5,P6,P7,P8,P9,P10,P11,P12,P13,P14,L1,P15,N1,N2,N3,N4,N5,N6,N7,I1,I2,I3,I4,I5,I6,I7,reduceIte,reduceCtorEq,c,k0,hrk,hrl,hat]
  refine loop3 (fun (j : Nat) (ch : Bool) (l : List (Nat × List Bool)) => j ≤ n ∧ PrI N (rsO l0) (rsO l) ch (fun u v => (u < k ∧ (v : Int) < N.n) ∨ (u = k ∧ v < j))) (fun j ch l => [.ptr 2 0 0,.cp (nfC f1 o1 f2 o2 f3 o3 N) 0,.cp [slW f6 o6 fa] 0,.bool ch,p64 k,Z,Z,Z,.ref 1 0 1 0 n,p64 n,p64 k,Z,Z,Z,Z,.ref (k + 3) 0 1 0 n,p64 n,p64 j,Z,Z,Z,Z,Z,Z,Z,Z,Z,Z,Z,Z,Z,Z,Z,Z,Z,Z,Z,Z,Z,Z,Z]) (fun _ _ l => stP vR n l X) (fun j _ _ => n - j) 0 ch l ⟨by omega,I.weak fun p q h => h.elim id fun h => by omega⟩ (by simp only [PWeak_nil,PWeak_junk,PWeak_same,Int.cast_ofNat_Int,List.length_append,List.length_cons,List.length_nil,Nat.zero_add]) rfl ?_
  intro j ch l ⟨hj,I⟩ ih2
  have hll : l.length = n := by have := I.d.1; simp only [List.length_map] at this; omega
  refine SemW_go (by kernel_rfl) ?_
  simp only [PP,P1,P2,P3,P4,P5,P6,P7,P8,P9,P10,P11,P12,P13,P14,L1,P15,N1,N2,N3,N4,N5,N6,N7,I1,I2,I3,I4,I5,I6,I7,reduceIte,reduceCtorEq]
  refine QIf.intro (fun d => ?_) (fun d => ?_)
  rotate_left
  · simp only [PP,P1,P2,P3,P4,P5,P6,P7,P8,P9,P10,P11,P12,P13,P14,L1,P15,N1,N2,N3,N4,N5,N6,N7,I1,I2,I3,I4,I5,I6,I7,reduceIte,reduceCtorEq,d,hwk]
    refine SemW_weak (ih (k + 1) ch l ⟨by omega,I.weak fun p q h => ?_⟩ (by omega)) (by simp only [PWeak_nil,PWeak_junk,PWeak_same,Int.cast_ofNat_Int,List.length_append,List.length_cons,List.length_nil,Nat.zero_add])
    by_cases e : p = k
    · exact .inr ⟨e,by omega⟩
    · exact .inl ⟨by omega,h.2⟩
  have hj' : j < n := by omega
  have j0 : (0 : Int) ≤ j := by omega
  have hwj := wrap_succ (k := j) (by show _ < 1000000000000; omega)
  obtain ⟨⟨v,row⟩,hlk⟩ := some_of (xs := l) (k := k) (by omega)
  have hrowl : (row.length : Int) = N.n := I.d.2 row (List.mem_map.2 ⟨_,List.mem_of_getElem? hlk,rfl⟩)
  obtain ⟨b,gb⟩ := some_of (xs := row) (k := j) (by omega)
  have hat := rowsO_at hlk X
  have hrv : rAt (rsO l) k j = b := by simp [rAt,List.getD,hlk,gb]
  have hrl2 : row.length = n := by omega
  have stepD : ∀ u w : Nat,(u < k ∧ (w : Int) < N.n) ∨ (u = k ∧ w < j + 1) → ((u < k ∧ (w : Int) < N.n) ∨ (u = k ∧ w < j)) ∨ (u = k ∧ w = j) := fun u w h => by
    rcases h with h | ⟨h1,h2⟩
    · exact .inl (.inl h)
    · by_cases e : w = j
      · exact .inr ⟨h1,e⟩
      · exact .inl (.inr ⟨h1,by omega⟩)
  cases b with
  | false =>
    simp only [PP,P1,P2,P3,P4,P5,P6,P7,P8,P9,P10,P11,P12,P13,P14,L1,P15,N1,N2,N3,N4,N5,N6,N7,I1,I2,I3,I4,I5,I6,I7,reduceIte,reduceCtorEq,d,j0,hat,gb,hrl2,hwj]
    exact SemW_weak (ih2 (j + 1) ch l ⟨by omega,(I.keep (p := k) (q := j) (fun h => by rw [hrv] at h; cases h)).weak stepD⟩ (by omega)) (by simp only [PWeak_nil,PWeak_junk,PWeak_same,Int.cast_ofNat_Int,List.length_append,List.length_cons,List.length_nil,Nat.zero_add])
  | true =>
    simp only [PP,P1,P2,P3,P4,P5,P6,P7,P8,P9,P10,P11,P12,P13,P14,L1,P15,N1,N2,N3,N4,N5,N6,N7,I1,I2,I3,I4,I5,I6,I7,reduceIte,reduceCtorEq,d,j0,hat,gb,hrl2]
    refine SemC_bor (args2 := [.agg (nfC f1 o1 f2 o2 f3 o3 N),slBr true false true false (rsO l),slW f6 o6 fa,p64 k,p64 j]) (.same (by simp only [PP,P1,P2,P3,P4,P5,P6,P7,P8,P9,P10,P11,P12,P13,P14,L1,P15,N1,N2,N3,N4,N5,N6,N7,I1,I2,I3,I4,I5,I6,I7,reduceIte,reduceCtorEq,under_slE]) (PBor.mat (by simp [hll]) rfl (fun j' r' hr' => ?_) (.same (by simp only [PP,P1,P2,P3,P4,P5,P6,P7,P8,P9,P10,P11,P12,P13,P14,L1,P15,N1,N2,N3,N4,N5,N6,N7,I1,I2,I3,I4,I5,I6,I7,reduceIte,reduceCtorEq]) (.same rfl (.same rfl .nil))))) (holds_p T C B hfa hbit I.d.1 I.d.2 (by omega) (by omega) (fun b hb => ⟨rfl, ?_⟩))
    · rw [List.getElem?_map,Option.map_eq_some_iff] at hr'
      obtain ⟨⟨v',r2⟩,h1,rfl⟩ := hr'
      have := I.d.2 r2 (List.mem_map.2 ⟨_,List.mem_of_getElem? h1,rfl⟩)
      refine ⟨by show r2.length = n; omega,v', ?_⟩
      simp only [List.getElem?_cons_succ]
      exact rowsO_at h1 X
    cases b with
    | true =>
      simp only [PP,P1,P2,P3,P4,P5,P6,P7,P8,P9,P10,P11,P12,P13,P14,L1,P15,N1,N2,N3,N4,N5,N6,N7,I1,I2,I3,I4,I5,I6,I7,reduceIte,reduceCtorEq,hwj]
      exact SemW_weak (ih2 (j + 1) ch l ⟨by omega,(I.keep (p := k) (q := j) (fun _ => hb.1 rfl)).weak stepD⟩ (by omega)) (by simp only [PWeak_nil,PWeak_junk,PWeak_same,Int.cast_ofNat_Int,List.length_append,List.length_cons,List.length_nil,Nat.zero_add])
    | false =>
      have kn : (k : Int) < n := by omega
      have jn : (j : Int) < n := by omega
      have jn1 : j + 1 ≤ n := by omega
      have hset := rowsO_set (l := l) (p := k) (by omega) (v + 1) (row.set j false) X
      rw [List.map_set] at hset
      simp only [PP,P1,P2,P3,P4,P5,P6,P7,P8,P9,P10,P11,P12,P13,P14,L1,P15,N1,N2,N3,N4,N5,N6,N7,I1,I2,I3,I4,I5,I6,I7,reduceIte,reduceCtorEq,k0,hrk,hrl,hat,hrl2,kn,jn,jn1,j0,hset,hwj]
      have I2 : PrI N (rsO l0) (setAt (rsO l) k j) true (fun u v => (u < k ∧ (v : Int) < N.n) ∨ (u = k ∧ v < j + 1)) := I.cut C (by omega) (by omega) hrv fun h => by have := hb.2 h; cases this
      rw [rsO_setAt hlk] at I2
      exact SemW_weak (ih2 (j + 1) true _ ⟨by omega,I2⟩ (by omega)) (by simp only [PWeak_nil,PWeak_junk,PWeak_same,Int.cast_ofNat_Int,List.length_append,List.length_cons,List.length_nil,Nat.zero_add])
end
end Go.Am.Ar
set_option linter.unusedVariables false
set_option linter.unusedSimpArgs false
set_option maxRecDepth 10000
namespace Go.Am.Ar
open Go.Am.PV renaming junk → Z
open Go.Am renaming pchk → P1,pold → P2,PKNo → P3,ppack → P4,PObj.under → P5,pput → P6,ptset → P7,ptget → P8,pev → P9,ofAV → P10,ofAV1 → P11,ppad → P12,pfill → P13,prepl → P14,AO.effect → P15
open List renaming replicate → L1
open Nat renaming reduceAdd → N1,reduceSub → N2,reduceMul → N3,reduceLT → N4,reduceLeDiff → N5,reduceEqDiff → N6,reduceBEq → N7
open Int renaming reduceToNat → I1,reduceLT → I2,reduceLE → I3,reduceEq → I4,reduceAdd → I5,reduceSub → I6,reduceNeg → I7
def tfL (k n : Nat) : List PV := List.replicate k (PV.bool true) ++ List.replicate (n - k) (PV.bool false)
theorem tfL_len {k n : Nat} (h : k ≤ n) : (tfL k n).length = n := by simp [tfL]; omega
theorem tfL_copy {k n : Nat} (h : k ≤ n) : (tfL k n).take k ++ (psub (tfL k n) 0 k).take (min k (n - k)) ++ (tfL k n).drop (k + min k (n - k)) = tfL (k + min k (n - k)) n := by
  have h1 : (tfL k n).take k = List.replicate k (PV.bool true) := by unfold tfL; rw [List.take_left' (by simp)]
  have h2 : psub (tfL k n) 0 k = List.replicate k (PV.bool true) := by unfold psub; rw [List.drop_zero,h1]
  have h3 : (tfL k n).drop (k + min k (n - k)) = List.replicate (n - (k + min k (n - k))) (PV.bool false) := by
    unfold tfL
    rw [← List.drop_drop,List.drop_left' (by simp),List.drop_replicate]
    congr 1; omega
  rw [h1,h2,h3,List.take_replicate,List.replicate_append_replicate]
  unfold tfL
  congr 2; omega
theorem tfL_one (k n : Nat) : (psub (tfL k n) 0 k).all PV.one = true := by
  have h2 : psub (tfL k n) 0 k = List.replicate k (PV.bool true) := by unfold psub tfL; rw [List.drop_zero,List.take_left' (by simp)]
  rw [h2,List.all_eq_true]
  intro x hx
  rw [List.eq_of_mem_replicate hx]; rfl
theorem u64_and {n : Nat} (h : n ≤ 64) : pbin .and (.int .u64 (n : Int)) (.int .u64 4294967295) = some (.int .u64 (n : Int)) := by
  have key : ∀ n : Fin 65,IntKind.u64.wrap ((BitVec.ofInt 64 ((n.1 : Nat) : Int) &&& BitVec.ofInt 64 4294967295).toNat : Int) = ((n.1 : Nat) : Int) := by decide
  have e := key ⟨n,by omega⟩
  simp only at e
  have e' : IntKind.u64.wrap ((BitVec.ofInt IntKind.u64.bits (n : Int) &&& BitVec.ofInt IntKind.u64.bits 4294967295).toNat : Int) = (n : Int) := e
  simp only [pbin,toAV0,abin,isShift,binInt,e']
  rfl
theorem u64_shr {n : Nat} (h : n ≤ 64) : pbin .shr (.int .u64 (n : Int)) (.int .u64 32) = some (.int .u64 0) := by
  have key : ∀ n : Fin 65,((n.1 : Nat) : Int).fdiv (2 ^ (min (Int.toNat 32) 64)) = 0 := by decide
  have e := key ⟨n,by omega⟩
  simp only at e
  have e' : (n : Int).fdiv (2 ^ (min (Int.toNat 32) IntKind.u64.bits)) = 0 := e
  simp only [pbin,toAV0,abin,isShift,binShift,e']
  rfl
theorem wrap_u {n : Nat} (h : n ≤ 64) : IntKind.u64.wrap (n : Int) = (n : Int) := by
  simp only [IntKind.wrap,IntKind.signed,IntKind.bits]
  simp
  omega
section
variable {tab : FuncId → Option AF} (T : HasA tab)
include T
theorem mul64_p {M : Mem} {K : PV → Mem → Prop} {n : Nat} (h : n ≤ 64) (hk : K (.tuple [.int .u64 0,.int .u64 n]) M) : SemC tab 110 [.int .u64 1,.int .u64 n] M K := by
  have a1 := u64_and (n := 1) (by decide)
  have a2 := u64_and h
  have a0 := u64_and (n := 0) (by decide)
  have s1 := u64_shr (n := 1) (by decide)
  have s2 := u64_shr h
  have s0 := u64_shr (n := 0) (by decide)
  have w := wrap_u h
  have w0 := wrap_u (n := 0) (by decide)
  have e1 : (1 : Int) * n = n := Int.one_mul _
  have e2 : (0 : Int) * n = 0 := Int.zero_mul _
  simp only [Int.cast_ofNat_Int] at a1 a0 s1 s0 w0
  refine SemC_pure T.h110 (by simp only [PP,P1,P2,P3,P4,P5,P6,P7,P8,P9,P10,P11,P12,P13,P14,L1,P15,N1,N2,N3,N4,N5,N6,N7,I1,I2,I3,I4,I5,I6,I7,reduceIte,reduceCtorEq]) ?_
  simp only [af110,PP,P1,P2,P3,P4,P5,P6,P7,P8,P9,P10,P11,P12,P13,P14,L1,P15,N1,N2,N3,N4,N5,N6,N7,I1,I2,I3,I4,I5,I6,I7,reduceIte,reduceCtorEq,a1,a2,a0,s1,s2,s0,w,w0,e1,e2,Int.mul_zero,Int.add_zero]
  exact hk
theorem mul_p {M : Mem} {K : PV → Mem → Prop} {n : Nat} (h : n ≤ 64) (hk : K (.tuple [.int .u64 0,.int .u64 n]) M) : SemC tab 88 [.int .u64 1,.int .u64 n] M K := by
  refine SemC_pure T.h88 (by simp only [PP,P1,P2,P3,P4,P5,P6,P7,P8,P9,P10,P11,P12,P13,P14,L1,P15,N1,N2,N3,N4,N5,N6,N7,I1,I2,I3,I4,I5,I6,I7,reduceIte,reduceCtorEq]) ?_
  simp only [af88,PP,P1,P2,P3,P4,P5,P6,P7,P8,P9,P10,P11,P12,P13,P14,L1,P15,N1,N2,N3,N4,N5,N6,N7,I1,I2,I3,I4,I5,I6,I7,reduceIte,reduceCtorEq]
  refine mul64_p T h ?_
  simp only [PP,P1,P2,P3,P4,P5,P6,P7,P8,P9,P10,P11,P12,P13,P14,L1,P15,N1,N2,N3,N4,N5,N6,N7,I1,I2,I3,I4,I5,I6,I7,reduceIte,reduceCtorEq]
  exact hk
theorem repeat_p {M : Mem} {K : PV → Mem → Prop} {n : Nat} (h : n ≤ 64) (hk : ∀ v,K (.ref M.length 0 1 0 n) (M ++ [.cells 0 v ((List.replicate n true).map PV.bool)])) : SemC tab 74 [.sl true true 1 1 [.bool true],p64 n] M K := by
  have n0 : (0 : Int) ≤ n := by omega
  have n1 : ¬ (n : Int) < 0 := by omega
  have w := wrap_u h
  have w1 : IntKind.u64.wrap 1 = 1 := rfl
  have wi : IntKind.i64.wrap (n : Int) = n := wrap64 (by omega) (by omega)
  have n2 : ¬ (9223372036854775807 : Int) < n := by omega
  have b1 : (n : Int) * 1 ≤ 140737488355328 := by omega
  have b2 : (n : Int) ≤ 9223372036854775807 := by omega
  refine SemC_fn T.h74 ?_
  simp only [af74,PP,P1,P2,P3,P4,P5,P6,P7,P8,P9,P10,P11,P12,P13,P14,L1,P15,N1,N2,N3,N4,N5,N6,N7,I1,I2,I3,I4,I5,I6,I7,reduceIte,reduceCtorEq,n1,w,w1]
  refine mul_p T h ?_
  simp only [PP,P1,P2,P3,P4,P5,P6,P7,P8,P9,P10,P11,P12,P13,P14,L1,P15,N1,N2,N3,N4,N5,N6,N7,I1,I2,I3,I4,I5,I6,I7,reduceIte,reduceCtorEq,n2,wi,n0,b1,b2,Int.le_refl,PS_copyS,PS_clearS,ZCopy_ref,ZClear_ref,List.append_assoc,gk,gk0,sk,sk0]
  rcases Nat.eq_zero_or_pos n with e0 | e0
  · subst e0
    simp only [Nat.min_zero,if_true]
    refine SemW_weak (b := [Z,Z,Z,Z,Z,Z,Z,.ref M.length 0 1 0 0,p64 0,Z,Z,Z,Z,Z,Z,Z,Z,Z,Z,Z,Z,Z,Z,Z,Z,Z,Z,Z,Z,Z,Z,Z,Z,Z,Z,Z,Z,Z,Z,Z,Z,Z,Z,Z,Z,Z,Z,Z]) ?_ (by simp only [PWeak_nil,PWeak_junk,PWeak_same,Int.cast_ofNat_Int,List.length_append,List.length_cons,List.length_nil,Nat.zero_add])
    refine SemW_go (by kernel_rfl) ?_
    simp only [PP,P1,P2,P3,P4,P5,P6,P7,P8,P9,P10,P11,P12,P13,P14,L1,P15,N1,N2,N3,N4,N5,N6,N7,I1,I2,I3,I4,I5,I6,I7,reduceIte,reduceCtorEq,List.append_assoc,gk,gk0,sk,sk0]
    exact hk 0
  have hm1 : min 1 n = 1 := by omega
  have hst : List.take 1 [PV.bool true] ++ List.drop 1 (List.replicate n (PV.bool false)) = tfL 1 n := by
    unfold tfL
    rw [List.drop_replicate]; rfl
  rw [hm1,if_neg (by decide),hst]
  refine loop2 (fun (k ver : Nat) => k ≤ n ∧ 0 < k) (fun k _ => [Z,Z,Z,Z,Z,Z,Z,.ref M.length 0 1 0 n,p64 k,Z,Z,Z,Z,Z,Z,Z,Z,Z,Z,Z,Z,Z,Z,Z,Z,Z,Z,Z,Z,Z,Z,Z,Z,Z,Z,Z,Z,Z,Z,Z,Z,Z,Z,Z,Z,Z,Z,Z]) (fun k ver => M ++ [.cells 0 ver (tfL k n)]) (fun k _ => n - k) 1 1 ⟨by omega,by omega⟩ (by simp only [PWeak_nil,PWeak_junk,PWeak_same,Int.cast_ofNat_Int,List.length_append,List.length_cons,List.length_nil,Nat.zero_add]) rfl ?_
  intro k ver ⟨hle,hpos⟩ ih
  refine SemW_go (by kernel_rfl) ?_
  simp only [PP,P1,P2,P3,P4,P5,P6,P7,P8,P9,P10,P11,P12,P13,P14,L1,P15,N1,N2,N3,N4,N5,N6,N7,I1,I2,I3,I4,I5,I6,I7,reduceIte,reduceCtorEq,List.append_assoc,gk,gk0,sk,sk0]
  refine QIf.intro (fun d => ?_) (fun d => ?_)
  · have hk' : k < n := by omega
    have k0 : (0 : Int) ≤ k := by omega
    have kn : (k : Int) ≤ n := by omega
    have e3 : ((n : Int) - k).toNat = n - k := by omega
    have hmin : ¬ min k (n - k) = 0 := by omega
    have hlt := tfL_len hle
    have h4 : k + (n - k) ≤ n := by omega
    have hadd : IntKind.i64.wrap ((k : Int) + ((min k (n - k) : Nat) : Int)) = ((k + min k (n - k) : Nat) : Int) := by rw [wrap64 (by omega) (by omega)]; omega
    have hone := tfL_one k n
    have hcp := tfL_copy hle
    simp only [PP,P1,P2,P3,P4,P5,P6,P7,P8,P9,P10,P11,P12,P13,P14,L1,P15,N1,N2,N3,N4,N5,N6,N7,I1,I2,I3,I4,I5,I6,I7,reduceIte,reduceCtorEq,d,k0,kn,e3,Int.le_refl,Int.sub_zero,PS_copyS,PS_clearS,ZCopy_ref,ZClear_ref,List.append_assoc,gk,gk0,sk,sk0,hlt,hle,h4,hone]
    rw [if_neg hmin,hadd, ← List.append_assoc,hcp]
    exact SemW_weak (ih (k + min k (n - k)) (ver + 1) ⟨by omega,by omega⟩ (by omega)) (by simp only [PWeak_nil,PWeak_junk,PWeak_same,Int.cast_ofNat_Int,List.length_append,List.length_cons,List.length_nil,Nat.zero_add])
  · have hkn : k = n := by omega
    subst hkn
    simp only [PP,P1,P2,P3,P4,P5,P6,P7,P8,P9,P10,P11,P12,P13,P14,L1,P15,N1,N2,N3,N4,N5,N6,N7,I1,I2,I3,I4,I5,I6,I7,reduceIte,reduceCtorEq,d,List.append_assoc,gk,gk0,sk,sk0]
    have e : tfL k k = (List.replicate k true).map PV.bool := by simp [tfL]
    rw [e]
    exact hk ver
end
end Go.Am.Ar
set_option linter.unusedVariables false
set_option linter.unusedSimpArgs false
set_option maxRecDepth 10000
namespace Go.Am.Ar
open Go.Am.PV renaming junk → Z
open Go.Am renaming pchk → P1,pold → P2,PKNo → P3,ppack → P4,PObj.under → P5,pput → P6,ptset → P7,ptget → P8,pev → P9,ofAV → P10,ofAV1 → P11,ppad → P12,pfill → P13,prepl → P14,AO.effect → P15
open List renaming replicate → L1
open Nat renaming reduceAdd → N1,reduceSub → N2,reduceMul → N3,reduceLT → N4,reduceLeDiff → N5,reduceEqDiff → N6,reduceBEq → N7
open Int renaming reduceToNat → I1,reduceLT → I2,reduceLE → I3,reduceEq → I4,reduceAdd → I5,reduceSub → I6,reduceNeg → I7
theorem PFrz_refl (id g : Nat) (cs : List PV) : ∀ a : List PV,PFrz id g cs a a
  | [] => trivial
  | _ :: a => ⟨.inr (.inl rfl),PFrz_refl id g cs a⟩
theorem PFrz_map {id g : Nat} {cs : List PV} {α : Type} {f f' : α → PV} : ∀ l : List α,(∀ u ∈ l,f u = f' u ∨ ∃ sz off n,f u = .ref id g sz off n ∧ off + n * sz ≤ cs.length ∧ f' u = .sl false true sz n (psub cs off (n * sz))) → PFrz id g cs (l.map f) (l.map f')
  | [],_ => trivial
  | x :: l,h => ⟨.inr (h x (by simp)),PFrz_map l fun u hu => h u (by simp [hu])⟩
theorem freezeRows {a : List PV} {M : Mem} {r b n vR : Nat} {rs : List (List Bool)} (hrb : r < b) (hl : rs.length = n) (hR : M[r]? = some (.cells 0 vR (refsR b n)))
    (hrow : ∀ u row,rs[u]? = some row → row.length = n ∧ ∃ v,M[u + b]? = some (.cells 0 v (row.map PV.bool))) :
    ∃ M',GStep 0 a M a M' ∧ M'[r]? = some (.cells 0 vR (rs.map (slB false true))) ∧ ∀ i,i < b → i ≠ r → M'[i]? = M[i]? := by
  have key : ∀ k,k ≤ n → ∃ M',GStep 0 a M a M' ∧ M'[r]? = some (.cells 0 vR (tabA n fun u => if u < k then slB false true (rs.getD u []) else .ref (u + b) 0 1 0 n)) ∧ (∀ u,k ≤ u → M'[u + b]? = M[u + b]?) ∧ ∀ i,i < b → i ≠ r → M'[i]? = M[i]? := by
    intro k
    induction k with
    | zero =>
      intro _
      refine ⟨M,GStep.weak (PWeak.refl a) rfl, ?_,fun _ _ => rfl,fun _ _ _ => rfl⟩
      rw [hR]; rfl
    | succ k ih =>
      intro hk
      obtain ⟨M',g,h1,h2,h3⟩ := ih (by omega)
      obtain ⟨row,hrk⟩ : ∃ row,rs[k]? = some row := ⟨_,List.getElem?_eq_getElem (by omega)⟩
      obtain ⟨hlen,v,hv⟩ := hrow k row hrk
      have hMk : M'[k + b]? = some (.cells 0 v (row.map PV.bool)) := by rw [h2 k (Nat.le_refl _)]; exact hv
      have hd : rs.getD k [] = row := by simp [List.getD,hrk]
      refine ⟨(M'.set (k + b) .gone).set r (.cells 0 vR (tabA n fun u => if u < k + 1 then slB false true (rs.getD u []) else .ref (u + b) 0 1 0 n)),g.trans (GStep.freezeIn (k + b) r (Nat.zero_le _) hMk h1 (by omega) (PFrz_refl _ _ _ _) (PFrz_map _ fun u hu => ?_) rfl), ?_,fun u hu => ?_,fun i hi hir => ?_⟩
      · by_cases e1 : u < k
        · left
          rw [if_pos e1,if_pos (by omega)]
        · by_cases e2 : u = k
          · subst e2
            right
            refine ⟨1,0,n,by rw [if_neg e1],by rw [List.length_map]; omega, ?_⟩
            rw [if_pos (by omega),hd,Nat.mul_one,psub_all _ _ (by rw [List.length_map,hlen])]
            unfold slB
            rw [hlen]
          · left
            rw [if_neg e1,if_neg (by omega)]
      · have hrl := getSome_lt h1
        rw [List.getElem?_set_self (by rw [List.length_set]; exact hrl)]
      · rw [List.getElem?_set_ne (by omega),List.getElem?_set_ne (by omega)]
        exact h2 u (by omega)
      · rw [List.getElem?_set_ne (Ne.symm hir),List.getElem?_set_ne (by omega)]
        exact h3 i hi hir
  obtain ⟨M',g,h1,_,h3⟩ := key n (Nat.le_refl _)
  refine ⟨M',g, ?_,h3⟩
  rw [h1]
  congr 2
  refine (tabA_ext (by rw [List.length_map]; exact hl) fun v hv => ?_).symm
  rw [if_pos hv,List.getElem?_map,List.getElem?_eq_getElem (by omega)]
  simp [List.getD,hl,hv]
section
variable {tab : FuncId → Option AF} (T : HasA tab)
include T
set_option maxHeartbeats 1000000 in
theorem relation_p {M : Mem} {K : PV → Mem → Prop} {f1 o1 f2 o2 f3 o3 : Bool} {N : NF} (C : NOk N) (B : BnN N) (hk : ∀ rs,RelOk N rs → K (slBr false true false true rs) M) :
    SemC tab 46 [.agg (nfC f1 o1 f2 o2 f3 o3 N)] M K := by
  have n0 := C.n0
  have n64 := C.n64
  obtain ⟨n,hn⟩ : ∃ n : Nat,N.n = n := ⟨N.n.toNat,by omega⟩
  have b0 : (0 : Int) ≤ n := by omega
  have b1 : (n : Int) * 24 ≤ 140737488355328 := by omega
  have b2 : (n : Int) ≤ 9223372036854775807 := by omega
  refine SemC_pureS T.h46 (by simp only [PP,P1,P2,P3,P4,P5,P6,P7,P8,P9,P10,P11,P12,P13,P14,L1,P15,N1,N2,N3,N4,N5,N6,N7,I1,I2,I3,I4,I5,I6,I7,reduceIte,reduceCtorEq,under_slE]) ?_
  simp only [af46]
  refine SemW_seq (SemW_of ?_)
  simp only [PP,P1,P2,P3,P4,P5,P6,P7,P8,P9,P10,P11,P12,P13,P14,L1,P15,N1,N2,N3,N4,N5,N6,N7,I1,I2,I3,I4,I5,I6,I7,reduceIte,reduceCtorEq]
  refine SemW_re (GStep.freezeP (b := [Z,.cp (nfC f1 o1 f2 o2 f3 o3 N) 0,Z,Z,Z,Z,Z,Z,Z,Z,Z,Z,Z,Z,Z,Z,Z,Z,Z,Z,Z,Z,Z,Z,Z,Z,Z,Z,Z,Z]) 0 (Nat.zero_le _) rfl (by simp only [PFrzP_nil,PFrzP_junk,PFrzP_same,PFrzP_ptr]) rfl) ?_
  refine SemW_seq (SemW_of ?_)
  simp only [PP,P1,P2,P3,P4,P5,P6,P7,P8,P9,P10,P11,P12,P13,P14,L1,P15,N1,N2,N3,N4,N5,N6,N7,I1,I2,I3,I4,I5,I6,I7,reduceIte,reduceCtorEq,hn]
  refine ⟨⟨b0,Int.le_refl _,b1,b2⟩, ?_⟩
  refine SemW_seq (SemW_of ?_)
  simp only [PP,P1,P2,P3,P4,P5,P6,P7,P8,P9,P10,P11,P12,P13,P14,L1,P15,N1,N2,N3,N4,N5,N6,N7,I1,I2,I3,I4,I5,I6,I7,reduceIte,reduceCtorEq]
  refine loop3 (fun (k vR : Nat) (l : List (Nat × List Bool)) => k ≤ n ∧ l.length = k ∧ ∀ x ∈ l,x.2 = List.replicate n true) (fun k _ _ => [Z,.cp (nfC f1 o1 f2 o2 f3 o3 N) 0,Z,.ptr 2 0 0,Z,Z,Z,Z,Z,Z,Z,p64 n,p64 k,Z,Z,Z,Z,Z,Z,Z,Z,Z,Z,Z,Z,Z,Z,Z,Z,Z]) (fun k vR l => .gone :: .cells 0 vR (tabA n fun u => if u < k then .ref (u + 3) 0 1 0 n else .nils) :: .cells 0 1 [.ref 1 0 1 0 n] :: rowsO l) (fun k _ _ => n - k) 0 0 [] ⟨by omega,rfl,by simp⟩ (by simp only [PWeak_nil,PWeak_junk,PWeak_same,Int.cast_ofNat_Int,List.length_append,List.length_cons,List.length_nil,Nat.zero_add]) (by rw [tabA_rep]; rfl) ?_
  intro k vR l ⟨hkn,hl,hall⟩ ih
  refine SemW_go (by kernel_rfl) ?_
  simp only [PP,P1,P2,P3,P4,P5,P6,P7,P8,P9,P10,P11,P12,P13,P14,L1,P15,N1,N2,N3,N4,N5,N6,N7,I1,I2,I3,I4,I5,I6,I7,reduceIte,reduceCtorEq,hn]
  refine QIf.intro (fun c => ?_) (fun c => ?_)
  · have hk' : k < n := by omega
    have k0 : (0 : Int) ≤ k := by omega
    have hwk := wrap_succ (k := k) (by show _ < 1000000000000; omega)
    simp only [PP,P1,P2,P3,P4,P5,P6,P7,P8,P9,P10,P11,P12,P13,P14,L1,P15,N1,N2,N3,N4,N5,N6,N7,I1,I2,I3,I4,I5,I6,I7,reduceIte,reduceCtorEq,c,hn]
    refine repeat_p T (by omega) fun v => ?_
    have htl := tabA_len n fun u => if u < k then PV.ref (u + 3) 0 1 0 n else .nils
    have hrl : (rowsO l).length = k := by simp [rowsO,hl]
    have k1 : k + 1 ≤ n := hk'
    simp only [PP,P1,P2,P3,P4,P5,P6,P7,P8,P9,P10,P11,P12,P13,P14,L1,P15,N1,N2,N3,N4,N5,N6,N7,I1,I2,I3,I4,I5,I6,I7,reduceIte,reduceCtorEq,k0,c,htl,hwk,hrl,k1,tabA_set _ hk',List.append_assoc]
    refine SemW_to (ih (k + 1) (vR + 1) (l ++ [(v,List.replicate n true)]) ⟨by omega,by simp [hl],fun x hx => ?_⟩ (by omega)) (by simp only [PWeak_nil,PWeak_junk,PWeak_same,Int.cast_ofNat_Int,List.length_append,List.length_cons,List.length_nil,Nat.zero_add]) ?_
    · rcases List.mem_append.1 hx with q | q
      · exact hall x q
      · rw [List.mem_singleton] at q; subst q; rfl
    · have e1 : (tabA n fun v => if v = k then PV.ref (k + 1 + 1 + 1) 0 1 0 n else if v < k then .ref (v + 3) 0 1 0 n else .nils) = tabA n fun u => if u < k + 1 then .ref (u + 3) 0 1 0 n else .nils := tabA_congr fun u hu => by
        by_cases q : u = k
        · subst q; rw [if_pos rfl,if_pos (by omega)]
        · rw [if_neg q]
          by_cases q2 : u < k
          · rw [if_pos q2,if_pos (by omega)]
          · rw [if_neg q2,if_neg (by omega)]
      rw [e1]
      simp [rowsO]
  have hkl : k = n := by omega
  subst hkl
  have e1 : (tabA k fun u => if u < k then PV.ref (u + 3) 0 1 0 k else .nils) = refsR 3 k := tabA_congr fun u hu => by rw [if_pos hu]
  have hrs : rsO l = allT k := by
    unfold allT rsO
    refine List.eq_replicate_iff.2 ⟨by rw [List.length_map]; exact hl,fun x hx => ?_⟩
    obtain ⟨y,hy,rfl⟩ := List.mem_map.1 hx
    exact hall y hy
  rw [e1]
  simp only [PP,P1,P2,P3,P4,P5,P6,P7,P8,P9,P10,P11,P12,P13,P14,L1,P15,N1,N2,N3,N4,N5,N6,N7,I1,I2,I3,I4,I5,I6,I7,reduceIte,reduceCtorEq,c]
  refine SemW_seq (SemW_of ?_)
  simp only [PP,P1,P2,P3,P4,P5,P6,P7,P8,P9,P10,P11,P12,P13,P14,L1,P15,N1,N2,N3,N4,N5,N6,N7,I1,I2,I3,I4,I5,I6,I7,reduceIte,reduceCtorEq]
  refine ofF_p T C C.fi ?_
  simp only [PP,P1,P2,P3,P4,P5,P6,P7,P8,P9,P10,P11,P12,P13,P14,L1,P15,N1,N2,N3,N4,N5,N6,N7,I1,I2,I3,I4,I5,I6,I7,reduceIte,reduceCtorEq,List.append_assoc,gk,gk0,sk,sk0]
  refine SemW_re (GStep.freezeP (b := [Z,.cp (nfC f1 o1 f2 o2 f3 o3 N) 0,Z,.ptr 2 0 0,Z,.cp [slW false true (faW N.fi)] 0,Z,Z,Z,Z,Z,Z,Z,Z,Z,Z,Z,Z,Z,Z,Z,Z,Z,Z,Z,Z,Z,Z,Z,Z]) ((rowsO l).length + 1 + 1 + 1) (Nat.zero_le _) (by simp only [List.getElem?_cons_succ,gk0]; rfl) (by simp only [PFrzP_nil,PFrzP_junk,PFrzP_same,PFrzP_ptr]) (by simp only [List.set_cons_succ,sk0,List.set_cons_zero]; rfl)) ?_
  refine SemW_seq (SemW_of ?_)
  simp only [PP,P1,P2,P3,P4,P5,P6,P7,P8,P9,P10,P11,P12,P13,P14,L1,P15,N1,N2,N3,N4,N5,N6,N7,I1,I2,I3,I4,I5,I6,I7,reduceIte,reduceCtorEq]
  obtain ⟨_,fa2,fa3⟩ := fa_ok C C.fi
  refine SemW_seq (SemW_gh ?_)
  refine SemW_of ?_
  simp only [PP,P1,P2,P3,P4,P5,P6,P7,P8,P9,P10,P11,P12,P13,P14,L1,P15,N1,N2,N3,N4,N5,N6,N7,I1,I2,I3,I4,I5,I6,I7,reduceIte,reduceCtorEq]
  refine loop1 (fun (l : List (Nat × List Bool)) => DimOk N (rsO l) ∧ UpR N (rsO l)) (fun _ => [Z,Z,Z,.ptr 2 0 0,Z,Z,.func (.func 75) [] [.ptr 2 0 0,.cp (nfC f1 o1 f2 o2 f3 o3 N) 0,.cp [slW false true (faW N.fi)] 0],Z,Z,Z,Z,Z,Z,Z,Z,Z,Z,Z,Z,Z,Z,Z,Z,Z,Z,Z,Z,Z,Z,Z]) (fun l => stP vR k l [.gone]) (fun l => cntR (rsO l)) l ⟨by rw [hrs]; exact allT_dim hn,by rw [hrs]; exact allT_up hn⟩ (by simp only [PWeak_nil,PWeak_junk,PWeak_same,Int.cast_ofNat_Int,List.length_append,List.length_cons,List.length_nil,Nat.zero_add]) rfl ?_
  intro l ⟨D,U⟩ ih
  refine SemW_go (by kernel_rfl) ?_
  simp only [PP,P1,P2,P3,P4,P5,P6,P7,P8,P9,P10,P11,P12,P13,P14,L1,P15,N1,N2,N3,N4,N5,N6,N7,I1,I2,I3,I4,I5,I6,I7,reduceIte,reduceCtorEq]
  refine prune_p T C B hn fa2 fa3 D U (fun l' ch I => ?_)
  cases ch with
  | true =>
    simp only [PP,P1,P2,P3,P4,P5,P6,P7,P8,P9,P10,P11,P12,P13,P14,L1,P15,N1,N2,N3,N4,N5,N6,N7,I1,I2,I3,I4,I5,I6,I7,reduceIte,reduceCtorEq]
    exact SemW_weak (ih l' ⟨I.d,I.u⟩ (I.ye rfl)) (by simp only [PWeak_nil,PWeak_junk,PWeak_same,Int.cast_ofNat_Int,List.length_append,List.length_cons,List.length_nil,Nat.zero_add])
  | false =>
    simp only [PP,P1,P2,P3,P4,P5,P6,P7,P8,P9,P10,P11,P12,P13,P14,L1,P15,N1,N2,N3,N4,N5,N6,N7,I1,I2,I3,I4,I5,I6,I7,reduceIte,reduceCtorEq]
    have R := I.fin
    have hll : (rsO l').length = k := by have := R.d.1; omega
    refine Gh.step (GStep.weak (b := [Z,Z,Z,.ptr 2 0 0,Z,Z,Z,Z,Z,Z,Z,Z,Z,Z,Z,Z,Z,Z,Z,Z,Z,Z,Z,Z,Z,Z,Z,Z,Z,Z]) (by simp only [PWeak_nil,PWeak_junk,PWeak_same,Int.cast_ofNat_Int,List.length_append,List.length_cons,List.length_nil,Nat.zero_add]) rfl) ?_
    obtain ⟨M',g,h1,h3⟩ := freezeRows (a := [Z,Z,Z,.ptr 2 0 0,Z,Z,Z,Z,Z,Z,Z,Z,Z,Z,Z,Z,Z,Z,Z,Z,Z,Z,Z,Z,Z,Z,Z,Z,Z,Z]) (M := stP vR k l' [.gone]) (r := 1) (b := 3) (n := k) (vR := vR) (rs := rsO l') (by omega) hll rfl (fun u row hu => by
      rw [List.getElem?_map,Option.map_eq_some_iff] at hu
      obtain ⟨⟨v',r2⟩,h1,rfl⟩ := hu
      have := R.d.2 r2 (List.mem_map.2 ⟨_,List.mem_of_getElem? h1,rfl⟩)
      refine ⟨by show r2.length = k; omega,v', ?_⟩
      simp only [List.getElem?_cons_succ]
      exact rowsO_at h1 [.gone])
    refine Gh.step g ?_
    have h2 : M'[2]? = some (.cells 0 1 [.ref 1 0 1 0 k]) := by rw [h3 2 (by omega) (by omega)]; rfl
    have hm2 := getSome_lt h2
    refine Gh.step (GStep.freezeIn (b := [Z,Z,Z,.ptr 2 0 0,Z,Z,Z,Z,Z,Z,Z,Z,Z,Z,Z,Z,Z,Z,Z,Z,Z,Z,Z,Z,Z,Z,Z,Z,Z,Z]) 1 2 (Nat.zero_le _) h1 h2 (by decide) (PFrz_refl _ _ _ _) (cj2 := [slBr false true false true (rsO l')]) (by
      rw [PFrz_ref (by rw [List.length_map]; omega) (by rw [Nat.mul_one,psub_all _ _ (by rw [List.length_map]; exact hll.symm)]; unfold slBr; rw [hll])]
      simp only [PFrz_nil]) rfl) (Gh.same (SemW_of ?_))
    have h4 : ((M'.set 1 .gone).set 2 (.cells 0 1 [slBr false true false true (rsO l')]))[2]? = some (.cells 0 1 [slBr false true false true (rsO l')]) := by
      rw [List.getElem?_set_self (by rw [List.length_set]; exact hm2)]
    have hfz : ∀ M0 : Mem,pfrz 0 M0 (slBr false true false true (rsO l')) = some (slBr false true false true (rsO l')) := fun M0 => pfrz1_under (M := M0) (under_slBr _ _ _ _ _ _ _ _)
    simp only [PP,P1,P2,P3,P4,P5,P6,P7,P8,P9,P10,P11,P12,P13,P14,L1,P15,N1,N2,N3,N4,N5,N6,N7,I1,I2,I3,I4,I5,I6,I7,reduceIte,reduceCtorEq,h4,hfz]
    exact hk _ R
end
end Go.Am.Ar
set_option linter.unusedVariables false
set_option linter.unusedSimpArgs false
set_option maxRecDepth 10000
namespace Go.Am.Ar
open Go.Am.PV renaming junk → Z
open Go.Am renaming pchk → P1,pold → P2,PKNo → P3,ppack → P4,PObj.under → P5,pput → P6,ptset → P7,ptget → P8,pev → P9,ofAV → P10,ofAV1 → P11,ppad → P12,pfill → P13,prepl → P14,AO.effect → P15
open List renaming replicate → L1
open Nat renaming reduceAdd → N1,reduceSub → N2,reduceMul → N3,reduceLT → N4,reduceLeDiff → N5,reduceEqDiff → N6,reduceBEq → N7
open Int renaming reduceToNat → I1,reduceLT → I2,reduceLE → I3,reduceEq → I4,reduceAdd → I5,reduceSub → I6,reduceNeg → I7
theorem RelOk.refl {N : NF} {rs : List (List Bool)} (R : RelOk N rs) {p : Nat} (hp : (p : Int) < N.n) : rAt rs p p = true := R.u _ (id_sim N) p p hp hp (by simp)
open Classical in
theorem RelOk.trans {N : NF} (C : NOk N) {rs : List (List Bool)} (R : RelOk N rs) {p q s : Nat} (hp : (p : Int) < N.n) (hq : (q : Int) < N.n) (hs : (s : Int) < N.n) (h1 : rAt rs p q = true) (h2 : rAt rs q s = true) : rAt rs p s = true := by
  refine R.u (fun a c => decide (∃ b : Nat,(b : Int) < N.n ∧ rAt rs a b = true ∧ rAt rs b c = true)) ?_ p s hp hs (decide_eq_true ⟨q,hq,h1,h2⟩)
  intro a c ha hc h
  obtain ⟨b,hb,k1,k2⟩ := of_decide_eq_true h
  have H1 := R.s a b ha hb k1
  have H2 := R.s b c hb hc k2
  refine ⟨fun z => H2.1 (H1.1 z),fun xu hxu => ?_⟩
  obtain ⟨yv,g1,g2,g3⟩ := H1.2 xu hxu
  obtain ⟨zw,g4,g5,g6⟩ := H2.2 yv g1
  obtain ⟨y,v⟩ := yv
  obtain ⟨_,v0,vn⟩ := mvL_ok C g1
  refine ⟨zw,g4,g2.trans g5,decide_eq_true ⟨v.toNat,by omega, ?_, ?_⟩⟩
  · rw [Int.toNat_of_nonneg v0]; exact g3
  · rw [Int.toNat_of_nonneg v0]; exact g6
section
variable {tab : FuncId → Option AF} (T : HasA tab)
include T
theorem relationW_p {M : Mem} {K : PV → Mem → Prop} {f1 o1 f2 o2 f3 o3 : Bool} {N : NF} (B : BnN N) (hk1 : checkN N ≠ 0 → K (.tuple [.nils,p64 (checkN N)]) M) (hk2 : checkN N = 0 → ∀ rs,RelOk N rs → K (.tuple [slBr false true false true rs,p64 0]) M) :
    SemC tab 18 [.agg (nfC f1 o1 f2 o2 f3 o3 N)] M K := by
  refine SemC_pure T.h18 (by simp only [PP,P1,P2,P3,P4,P5,P6,P7,P8,P9,P10,P11,P12,P13,P14,L1,P15,N1,N2,N3,N4,N5,N6,N7,I1,I2,I3,I4,I5,I6,I7,reduceIte,reduceCtorEq,under_slE]) ?_
  simp only [af18,PP,P1,P2,P3,P4,P5,P6,P7,P8,P9,P10,P11,P12,P13,P14,L1,P15,N1,N2,N3,N4,N5,N6,N7,I1,I2,I3,I4,I5,I6,I7,reduceIte,reduceCtorEq]
  refine check_p T B ?_
  simp only [PP,P1,P2,P3,P4,P5,P6,P7,P8,P9,P10,P11,P12,P13,P14,L1,P15,N1,N2,N3,N4,N5,N6,N7,I1,I2,I3,I4,I5,I6,I7,reduceIte,reduceCtorEq]
  by_cases c : checkN N = 0
  · simp only [PP,P1,P2,P3,P4,P5,P6,P7,P8,P9,P10,P11,P12,P13,P14,L1,P15,N1,N2,N3,N4,N5,N6,N7,I1,I2,I3,I4,I5,I6,I7,reduceIte,reduceCtorEq,c]
    refine relation_p T (nok_of c) B fun rs R => ?_
    have hfz : ∀ M0 : Mem,pfrz2 0 M0 (slBr false true false true rs) = some (slBr false true false true rs) := fun M0 => pfrz1_under (M := M0) (under_slBr _ _ _ _ _ _ _ _)
    simp only [PP,P1,P2,P3,P4,P5,P6,P7,P8,P9,P10,P11,P12,P13,P14,L1,P15,N1,N2,N3,N4,N5,N6,N7,I1,I2,I3,I4,I5,I6,I7,reduceIte,reduceCtorEq,hfz]
    exact hk2 c rs R
  · simp only [PP,P1,P2,P3,P4,P5,P6,P7,P8,P9,P10,P11,P12,P13,P14,L1,P15,N1,N2,N3,N4,N5,N6,N7,I1,I2,I3,I4,I5,I6,I7,reduceIte,reduceCtorEq,c]
    exact hk1 c
end
end Go.Am.Ar
set_option linter.unusedVariables false
set_option linter.unusedSimpArgs false
set_option maxRecDepth 10000
namespace Go.Am.Ar
open Go.Am.PV renaming junk → Z
open Go.Am renaming pchk → P1,pold → P2,PKNo → P3,ppack → P4,PObj.under → P5,pput → P6,ptset → P7,ptget → P8,pev → P9,ofAV → P10,ofAV1 → P11,ppad → P12,pfill → P13,prepl → P14,AO.effect → P15
open List renaming replicate → L1
open Nat renaming reduceAdd → N1,reduceSub → N2,reduceMul → N3,reduceLT → N4,reduceLeDiff → N5,reduceEqDiff → N6,reduceBEq → N7
open Int renaming reduceToNat → I1,reduceLT → I2,reduceLE → I3,reduceEq → I4,reduceAdd → I5,reduceSub → I6,reduceNeg → I7
def simB (rs : List (List Bool)) (p q : Nat) : Bool := rAt rs p q && rAt rs q p
inductive ClsI (rs : List (List Bool)) : Nat → List Int → Nat → Prop
  | nil : ClsI rs 0 [] 0
  | new {k m : Nat} {l : List Int} : ClsI rs k l m → (∀ j,j < k → simB rs k j = false) → ClsI rs (k + 1) (l ++ [(m : Int)]) (m + 1)
  | old {k m q : Nat} {l : List Int} {c : Int} : ClsI rs k l m → q < k → (∀ j,j < q → simB rs k j = false) → simB rs k q = true → l[q]? = some c → ClsI rs (k + 1) (l ++ [c]) m
theorem ClsI.len {rs : List (List Bool)} {k m : Nat} {l : List Int} (h : ClsI rs k l m) : l.length = k := by
  induction h with
  | nil => rfl
  | new _ _ ih => simp [ih]
  | old _ _ _ _ _ ih => simp [ih]
theorem ClsI.eq {rs : List (List Bool)} {k m : Nat} {l : List Int} (h : ClsI rs k l m) : ∀ {m' : Nat} {l' : List Int},ClsI rs k l' m' → l = l' ∧ m = m' := by
  induction h with
  | nil => intro m' l' h'; cases h'; exact ⟨rfl,rfl⟩
  | @new k m l h1 h2 ih =>
    intro m' l' h'
    cases h' with
    | new g1 g2 => obtain ⟨rfl,rfl⟩ := ih g1; exact ⟨rfl,rfl⟩
    | old g1 g2 g3 g4 g5 => rw [h2 _ g2] at g4; cases g4
  | @old k m q l c h1 h2 h3 h4 h5 ih =>
    intro m' l' h'
    cases h' with
    | new g1 g2 => rw [g2 _ h2] at h4; cases h4
    | @old _ _ q' _ _ g1 g2 g3 g4 g5 =>
      obtain ⟨rfl,rfl⟩ := ih g1
      have : q = q' := by
        rcases Nat.lt_trichotomy q q' with x | x | x
        · rw [g3 _ x] at h4; cases h4
        · exact x
        · rw [h3 _ x] at g4; cases g4
      subst this
      rw [h5] at g5; cases g5; exact ⟨rfl,rfl⟩
theorem ClsI.lt {rs : List (List Bool)} {k m : Nat} {l : List Int} (h : ClsI rs k l m) : m ≤ k ∧ ∀ c ∈ l,0 ≤ c ∧ c < m := by
  induction h with
  | nil => exact ⟨by omega,fun c h => by cases h⟩
  | @new k m l _ _ ih =>
    refine ⟨by omega,fun c hc => ?_⟩
    rcases List.mem_append.1 hc with hc | hc
    · have := ih.2 c hc; omega
    · rw [List.mem_singleton] at hc; omega
  | @old k m q l c _ _ _ _ h5 ih =>
    refine ⟨by omega,fun d hd => ?_⟩
    rcases List.mem_append.1 hd with hd | hd
    · exact ih.2 d hd
    · rw [List.mem_singleton] at hd; subst hd; exact ih.2 d (List.mem_of_getElem? h5)
theorem ClsI.surj {rs : List (List Bool)} {k m : Nat} {l : List Int} (h : ClsI rs k l m) : ∀ c : Nat,c < m → (c : Int) ∈ l := by
  induction h with
  | nil => intro c hc; omega
  | @new k m l _ _ ih =>
    intro c hc
    by_cases e : c = m
    · subst e; simp
    · exact List.mem_append_left _ (ih c (by omega))
  | old _ _ _ _ _ ih => intro c hc; exact List.mem_append_left _ (ih c hc)
structure EqvB (rs : List (List Bool)) (n : Nat) : Prop where
  r : ∀ p,p < n → simB rs p p = true
  s : ∀ p q,simB rs p q = true → simB rs q p = true
  t : ∀ p q s,p < n → q < n → s < n → simB rs p q = true → simB rs q s = true → simB rs p s = true
theorem RelOk.eqv {N : NF} (C : NOk N) {rs : List (List Bool)} (R : RelOk N rs) {n : Nat} (hn : N.n = n) : EqvB rs n := by
  refine ⟨fun p hp => ?_,fun p q h => ?_,fun p q s hp hq hs h1 h2 => ?_⟩
  · unfold simB; rw [R.refl (by omega)]; rfl
  · unfold simB at h ⊢; rw [Bool.and_comm]; exact h
  · unfold simB at *
    rw [Bool.and_eq_true] at *
    exact ⟨R.trans C (q := q) (by omega) (by omega) (by omega) h1.1 h2.1,R.trans C (q := q) (by omega) (by omega) (by omega) h2.2 h1.2⟩
section
variable {tab : FuncId → Option AF} (T : HasA tab)
include T
set_option maxHeartbeats 1000000 in
theorem classes_p {M : Mem} {K : PV → Mem → Prop} {f1 o1 f2 o2 f3 o3 : Bool} {N : NF} (B : BnN N) (hk1 : checkN N ≠ 0 → K (.tuple [.nils,p64 (checkN N)]) M)
    (hk2 : checkN N = 0 → ∀ rs l m,RelOk N rs → ClsI rs N.n.toNat l m → K (.tuple [slI false true .i64 l,p64 0]) M) :
    SemC tab 19 [.agg (nfC f1 o1 f2 o2 f3 o3 N)] M K := by
  refine SemC_pure T.h19 (by simp only [PP,P1,P2,P3,P4,P5,P6,P7,P8,P9,P10,P11,P12,P13,P14,L1,P15,N1,N2,N3,N4,N5,N6,N7,I1,I2,I3,I4,I5,I6,I7,reduceIte,reduceCtorEq,under_slE]) ?_
  simp only [af19,PP,P1,P2,P3,P4,P5,P6,P7,P8,P9,P10,P11,P12,P13,P14,L1,P15,N1,N2,N3,N4,N5,N6,N7,I1,I2,I3,I4,I5,I6,I7,reduceIte,reduceCtorEq]
  refine relationW_p T B (fun c => ?_) (fun c rs R => ?_)
  · simp only [PP,P1,P2,P3,P4,P5,P6,P7,P8,P9,P10,P11,P12,P13,P14,L1,P15,N1,N2,N3,N4,N5,N6,N7,I1,I2,I3,I4,I5,I6,I7,reduceIte,reduceCtorEq]
    refine loop1 (fun (k : Nat) => k = 0) (fun k => [Z,Z,.nils,p64 (checkN N),.nils,p64 0,Z,Z,Z,Z,Z,Z,Z,Z,p64 0,p64 0,Z,Z,Z,Z,Z,Z,Z,Z,Z,Z,Z,Z,Z,Z,Z,Z,Z,Z,Z,Z,Z,Z,Z,Z,Z,Z,Z,Z,Z,Z,Z,Z,Z,Z,Z,Z,Z,Z,Z,Z,Z,Z,Z,Z,Z]) (fun _ => [.cells 0 0 (nfC f1 o1 f2 o2 f3 o3 N)]) (fun k => 0) 0 rfl (by simp only [PWeak_nil,PWeak_junk,PWeak_same,Int.cast_ofNat_Int,List.length_append,List.length_cons,List.length_nil,Nat.zero_add]) rfl ?_
    intro k hk0 ih
    refine SemW_go (by kernel_rfl) ?_
    simp only [PP,P1,P2,P3,P4,P5,P6,P7,P8,P9,P10,P11,P12,P13,P14,L1,P15,N1,N2,N3,N4,N5,N6,N7,I1,I2,I3,I4,I5,I6,I7,reduceIte,reduceCtorEq]
    exact hk1 c
  have C := nok_of c
  have n0 := C.n0
  have n64 := C.n64
  obtain ⟨n,hn⟩ : ∃ n : Nat,N.n = n := ⟨N.n.toNat,by omega⟩
  have D := R.d
  have hrl : (rs.length : Int) = n := by have := D.1; omega
  have hrn : rs.length = n := by omega
  have hget : ∀ p q : Nat,p < n → q < n → ∃ row b,rs[p]? = some row ∧ row[q]? = some b ∧ rAt rs p q = b ∧ (row.length : Int) = n := fun p q hp hq => by
    obtain ⟨row,g1⟩ := some_of (xs := rs) (k := p) (by omega)
    have := D.2 row (List.mem_of_getElem? g1)
    obtain ⟨b,g2⟩ := some_of (xs := row) (k := q) (by omega)
    exact ⟨row,b,g1,g2,by simp [rAt,List.getD,g1,g2],by omega⟩
  simp only [PP,P1,P2,P3,P4,P5,P6,P7,P8,P9,P10,P11,P12,P13,P14,L1,P15,N1,N2,N3,N4,N5,N6,N7,I1,I2,I3,I4,I5,I6,I7,reduceIte,reduceCtorEq]
  refine SemW_re (GStep.nil 2 1 rfl rfl rfl) ?_
  simp only [ptset,List.cons_append,List.nil_append,List.length_cons,List.length_nil,Nat.reduceAdd]
  refine loop5 (fun (k m g v : Nat) (l : List Int) => k ≤ n ∧ ClsI rs k l m) (fun k m g v l => [Z,Z,.ref 1 g 1 0 l.length,p64 0,slBr false true false true rs,p64 m,Z,Z,Z,Z,Z,Z,Z,Z,p64 n,p64 k,Z,Z,Z,Z,Z,Z,Z,Z,Z,Z,Z,Z,Z,Z,Z,Z,Z,Z,Z,Z,Z,Z,Z,Z,Z,Z,Z,Z,Z,Z,Z,Z,Z,Z,Z,Z,Z,Z,Z,Z,Z,Z,Z,Z,Z]) (fun k m g v l => [.cells 0 0 (nfC f1 o1 f2 o2 f3 o3 N),.cells g v (l.map p64)]) (fun k _ _ _ _ => n - k) 0 0 0 0 [] ⟨by omega,.nil⟩ (by subst hrn; exact by simp only [PWeak_nil,PWeak_junk,PWeak_same,Int.cast_ofNat_Int,List.length_append,List.length_cons,List.length_nil,Nat.zero_add]) rfl ?_
  intro k m g v l ⟨hle,hC⟩ ih
  refine SemW_go (by kernel_rfl) ?_
  simp only [PP,P1,P2,P3,P4,P5,P6,P7,P8,P9,P10,P11,P12,P13,P14,L1,P15,N1,N2,N3,N4,N5,N6,N7,I1,I2,I3,I4,I5,I6,I7,reduceIte,reduceCtorEq]
  have hll := hC.len
  have hml := hC.lt.1
  refine QIf.intro (fun d => ?_) (fun d => ?_)
  rotate_left
  · have hkn : k = n := by omega
    subst hkn
    have hfr : frzO (some (.cells g v (l.map p64))) g 1 0 l.length = some (slI false true .i64 l) := by
      rw [frzO_cells (by simp) (underL_map _ p64 (fun x => by simp [PV.under]) _),Nat.mul_one,psub_all _ _ (by simp)]
    simp only [PP,P1,P2,P3,P4,P5,P6,P7,P8,P9,P10,P11,P12,P13,P14,L1,P15,N1,N2,N3,N4,N5,N6,N7,I1,I2,I3,I4,I5,I6,I7,reduceIte,reduceCtorEq,d,hfr]
    exact hk2 c rs l m R (by rw [hn]; exact hC)
  have hk' : k < n := by omega
  have hwk := wrap_succ (k := k) (by show _ < 1000000000000; omega)
  simp only [PP,P1,P2,P3,P4,P5,P6,P7,P8,P9,P10,P11,P12,P13,P14,L1,P15,N1,N2,N3,N4,N5,N6,N7,I1,I2,I3,I4,I5,I6,I7,reduceIte,reduceCtorEq,d]
  refine loop1 (fun (q : Nat) => q ≤ k ∧ ∀ j,j < q → simB rs k j = false) (fun q => [Z,Z,.ref 1 g 1 0 l.length,p64 0,slBr false true false true rs,p64 m,p64 k,p64 q,Z,Z,Z,Z,Z,Z,p64 n,p64 k,Z,Z,Z,Z,Z,Z,Z,Z,Z,Z,Z,Z,Z,Z,Z,Z,Z,Z,Z,Z,Z,Z,Z,Z,Z,Z,Z,Z,Z,Z,Z,Z,Z,Z,Z,Z,Z,Z,Z,Z,Z,Z,Z,Z,Z]) (fun q => [.cells 0 0 (nfC f1 o1 f2 o2 f3 o3 N),.cells g v (l.map p64)]) (fun q => k - q) 0 ⟨by omega,fun j h => by omega⟩ (by simp only [PWeak_nil,PWeak_junk,PWeak_same,Int.cast_ofNat_Int,List.length_append,List.length_cons,List.length_nil,Nat.zero_add]) rfl ?_
  intro q ⟨hq,hd⟩ ih2
  refine SemW_go (by kernel_rfl) ?_
  simp only [PP,P1,P2,P3,P4,P5,P6,P7,P8,P9,P10,P11,P12,P13,P14,L1,P15,N1,N2,N3,N4,N5,N6,N7,I1,I2,I3,I4,I5,I6,I7,reduceIte,reduceCtorEq]
  by_cases e : q = k
  · subst e
    have hwm := wrap_succ (k := m) (by show _ < 1000000000000; omega)
    have b8 : (l.length + 1) * 8 ≤ 140737488355328 := by omega
    have b1 : l.length ≤ 9223372036854775806 := by omega
    have hps : psub (l.map p64) 0 l.length = l.map p64 := psub_all _ _ (by simp)
    simp only [PP,P1,P2,P3,P4,P5,P6,P7,P8,P9,P10,P11,P12,P13,P14,L1,P15,N1,N2,N3,N4,N5,N6,N7,I1,I2,I3,I4,I5,I6,I7,reduceIte,reduceCtorEq,Int.lt_irrefl,hwk,hwm,b8,b1,hps]
    refine SemW_to (ih (q + 1) (m + 1) (g + 1) 0 (l ++ [(m : Int)]) ⟨by omega,.new hC hd⟩ (by omega)) (by simp only [PWeak_nil,PWeak_junk,PWeak_same,Int.cast_ofNat_Int,List.length_append,List.length_cons,List.length_nil,Nat.zero_add]) (by simp)
  · have hq' : q < k := by omega
    have q1 : (q : Int) < k := by omega
    have q0 : (0 : Int) ≤ q := by omega
    have k0 : (0 : Int) ≤ k := by omega
    have kn : (k : Int) < n := by omega
    have qn : (q : Int) < n := by omega
    have e2 : ¬ (q : Int) = k := by omega
    have hwq := wrap_succ (k := q) (by show _ < 1000000000000; omega)
    obtain ⟨row,b,g1,g2,g3,g4⟩ := hget k q hk' (by omega)
    obtain ⟨row2,b2,g5,g6,g7,g8⟩ := hget q k (by omega) hk'
    have hs : simB rs k q = (b && b2) := by unfold simB; rw [g3,g7]
    obtain ⟨cc,gc⟩ := some_of (xs := l) (k := q) (by omega)
    have gc2 : (l.map p64)[q]? = some (p64 cc) := by rw [List.getElem?_map,gc]; rfl
    simp only [PP,P1,P2,P3,P4,P5,P6,P7,P8,P9,P10,P11,P12,P13,P14,L1,P15,N1,N2,N3,N4,N5,N6,N7,I1,I2,I3,I4,I5,I6,I7,reduceIte,reduceCtorEq,q1,q0,k0,kn,qn,g1,g2,g5,g6,hrl,hrn,g4,g8]
    cases b with
    | false =>
      simp only [PP,P1,P2,P3,P4,P5,P6,P7,P8,P9,P10,P11,P12,P13,P14,L1,P15,N1,N2,N3,N4,N5,N6,N7,I1,I2,I3,I4,I5,I6,I7,reduceIte,reduceCtorEq,hwq]
      refine SemW_weak (ih2 (q + 1) ⟨by omega,fun j hj => ?_⟩ (by omega)) (by simp only [PWeak_nil,PWeak_junk,PWeak_same,Int.cast_ofNat_Int,List.length_append,List.length_cons,List.length_nil,Nat.zero_add])
      by_cases z : j = q
      · subst z; exact hs
      · exact hd j (by omega)
    | true =>
      simp only [PP,P1,P2,P3,P4,P5,P6,P7,P8,P9,P10,P11,P12,P13,P14,L1,P15,N1,N2,N3,N4,N5,N6,N7,I1,I2,I3,I4,I5,I6,I7,reduceIte,reduceCtorEq,q1,q0,k0,kn,qn,g1,g2,g5,g6,hrl,hrn,g4,g8]
      cases b2 with
      | false =>
        simp only [PP,P1,P2,P3,P4,P5,P6,P7,P8,P9,P10,P11,P12,P13,P14,L1,P15,N1,N2,N3,N4,N5,N6,N7,I1,I2,I3,I4,I5,I6,I7,reduceIte,reduceCtorEq,hwq]
        refine SemW_weak (ih2 (q + 1) ⟨by omega,fun j hj => ?_⟩ (by omega)) (by simp only [PWeak_nil,PWeak_junk,PWeak_same,Int.cast_ofNat_Int,List.length_append,List.length_cons,List.length_nil,Nat.zero_add])
        by_cases z : j = q
        · subst z; exact hs
        · exact hd j (by omega)
      | true =>
        have ql : (q : Int) < l.length := by omega
        have b8 : (l.length + 1) * 8 ≤ 140737488355328 := by omega
        have b1 : l.length ≤ 9223372036854775806 := by omega
        have hps : psub (l.map p64) 0 l.length = l.map p64 := psub_all _ _ (by simp)
        simp only [PP,P1,P2,P3,P4,P5,P6,P7,P8,P9,P10,P11,P12,P13,P14,L1,P15,N1,N2,N3,N4,N5,N6,N7,I1,I2,I3,I4,I5,I6,I7,reduceIte,reduceCtorEq,e2,q0,ql,gc,hwk,b8,b1,hps]
        refine SemW_to (ih (k + 1) m (g + 1) 0 (l ++ [cc]) ⟨by omega,.old hC hq' hd hs gc⟩ (by omega)) (by simp only [PWeak_nil,PWeak_junk,PWeak_same,Int.cast_ofNat_Int,List.length_append,List.length_cons,List.length_nil,Nat.zero_add]) (by simp)
end
end Go.Am.Ar
set_option linter.unusedVariables false
set_option linter.unusedSimpArgs false
set_option maxRecDepth 10000
namespace Go.Am.Ar
open Go.Am.PV renaming junk → Z
open Go.Am renaming pchk → P1,pold → P2,PKNo → P3,ppack → P4,PObj.under → P5,pput → P6,ptset → P7,ptget → P8,pev → P9,ofAV → P10,ofAV1 → P11,ppad → P12,pfill → P13,prepl → P14,AO.effect → P15
open List renaming replicate → L1
open Nat renaming reduceAdd → N1,reduceSub → N2,reduceMul → N3,reduceLT → N4,reduceLeDiff → N5,reduceEqDiff → N6,reduceBEq → N7
open Int renaming reduceToNat → I1,reduceLT → I2,reduceLE → I3,reduceEq → I4,reduceAdd → I5,reduceSub → I6,reduceNeg → I7
section
variable {tab : FuncId → Option AF} (T : HasA tab)
include T
theorem isNaN13_p {M : Mem} {K : PV → Mem → Prop} {x : Int} (hq : K (.bool false) M) : SemC tab 116 [p64 x] M K := by
  refine SemC_pure T.h116 (by simp only [PP,P1,P2,P3,P4,P5,P6,P7,P8,P9,P10,P11,P12,P13,P14,L1,P15,N1,N2,N3,N4,N5,N6,N7,I1,I2,I3,I4,I5,I6,I7,reduceIte,reduceCtorEq]) ?_
  simp only [af116,PP,P1,P2,P3,P4,P5,P6,P7,P8,P9,P10,P11,P12,P13,P14,L1,P15,N1,N2,N3,N4,N5,N6,N7,I1,I2,I3,I4,I5,I6,I7,reduceIte,reduceCtorEq]
  exact hq
theorem less13_p {M : Mem} {K : PV → Mem → Prop} {x y : Int} (hq : K (.bool (decide (x < y))) M) : SemC tab 95 [p64 x,p64 y] M K := by
  refine SemC_pure T.h95 (by simp only [PP,P1,P2,P3,P4,P5,P6,P7,P8,P9,P10,P11,P12,P13,P14,L1,P15,N1,N2,N3,N4,N5,N6,N7,I1,I2,I3,I4,I5,I6,I7,reduceIte,reduceCtorEq]) ?_
  simp only [af95,PP,P1,P2,P3,P4,P5,P6,P7,P8,P9,P10,P11,P12,P13,P14,L1,P15,N1,N2,N3,N4,N5,N6,N7,I1,I2,I3,I4,I5,I6,I7,reduceIte,reduceCtorEq]
  refine isNaN13_p T ?_
  simp only [PP,P1,P2,P3,P4,P5,P6,P7,P8,P9,P10,P11,P12,P13,P14,L1,P15,N1,N2,N3,N4,N5,N6,N7,I1,I2,I3,I4,I5,I6,I7,reduceIte,reduceCtorEq]
  exact hq
set_option maxHeartbeats 1000000 in
theorem isort_p {K : PV → Mem → Prop} {g v n : Nat} {l : List Int} (hn : l.length = n) (hb : n < 1000000000000) (hk : ∀ (v' : Nat) (l' : List Int),l'.Perm l → l'.Pairwise (· ≤ ·) → K (.tuple []) [.cells g v' (l'.map p64)]) :
    SemC tab 89 [.ref 0 g 1 0 n,p64 0,p64 n] [.cells g v (l.map p64)] K := by
  refine SemC_fn T.h89 ?_
  simp only [af89,PP,P1,P2,P3,P4,P5,P6,P7,P8,P9,P10,P11,P12,P13,P14,L1,P15,N1,N2,N3,N4,N5,N6,N7,I1,I2,I3,I4,I5,I6,I7,reduceIte,reduceCtorEq]
  have w1 : IntKind.i64.wrap 1 = ((1 : Nat) : Int) := rfl
  simp only [w1]
  refine loop3 (fun (i v : Nat) (x : List Int) => 1 ≤ i ∧ x.Perm l ∧ (x.take i).Pairwise (· ≤ ·)) (fun i v x => [.ref 0 g 1 0 n,p64 0,p64 n,Z,Z,Z,p64 i,Z,Z,Z,Z,Z,Z,Z,Z,Z,Z,Z,Z,Z,Z,Z,Z,Z,Z,Z,Z,Z,Z,Z,Z,Z,Z,Z,Z,Z,Z,Z,Z,Z,Z,Z,Z,Z,Z,Z,Z,Z,Z]) (fun i v x => [.cells g v (x.map p64)]) (fun i _ _ => n - i) 1 v l ⟨by omega,.refl _,by match l with | [] => simp | [a] => simp | a :: b :: c => simp⟩ (by simp only [PWeak_nil,PWeak_junk,PWeak_same,Int.cast_ofNat_Int,List.length_append,List.length_cons,List.length_nil,Nat.zero_add]) rfl ?_
  intro i v x ⟨hi,hp,hs⟩ ih
  have hxl : x.length = n := by rw [hp.length_eq,hn]
  refine SemW_go (by kernel_rfl) ?_
  simp only [PP,P1,P2,P3,P4,P5,P6,P7,P8,P9,P10,P11,P12,P13,P14,L1,P15,N1,N2,N3,N4,N5,N6,N7,I1,I2,I3,I4,I5,I6,I7,reduceIte,reduceCtorEq]
  refine QIf.intro (fun c => ?_) (fun c => ?_)
  rotate_left
  · rw [List.take_of_length_le (by omega)] at hs
    simp only [PP,P1,P2,P3,P4,P5,P6,P7,P8,P9,P10,P11,P12,P13,P14,L1,P15,N1,N2,N3,N4,N5,N6,N7,I1,I2,I3,I4,I5,I6,I7,reduceIte,reduceCtorEq,c]
    exact hk v x hp hs
  have hi' : i < n := by omega
  have hwi := wrap_succ (k := i) (by show _ < 1000000000000; omega)
  simp only [PP,P1,P2,P3,P4,P5,P6,P7,P8,P9,P10,P11,P12,P13,P14,L1,P15,N1,N2,N3,N4,N5,N6,N7,I1,I2,I3,I4,I5,I6,I7,reduceIte,reduceCtorEq,c]
  obtain ⟨y0,gy0⟩ := some_of (xs := x) (k := i) (by omega)
  have hx0 : x.take i ++ y0 :: ([] ++ x.drop (i + 1)) = x := by
    have h2 := (List.getElem?_eq_some_iff.1 gy0).2
    have h3 := (List.getElem?_eq_some_iff.1 gy0).1
    conv => rhs; rw [← List.take_append_drop i x,List.drop_eq_getElem_cons h3,h2]
    simp
  have hti : (x.take i).length = i := by simp; omega
  refine loop5 (fun (v : Nat) (a : List Int) (y : Int) (b c : List Int) => (a ++ y :: (b ++ c)).Perm l ∧ a.length + b.length = i ∧ (a ++ b).Pairwise (· ≤ ·) ∧ ∀ z ∈ b,y ≤ z) (fun v a y b c => [.ref 0 g 1 0 n,p64 0,p64 n,Z,Z,Z,p64 i,p64 a.length,Z,Z,Z,Z,Z,Z,Z,Z,Z,Z,Z,Z,Z,Z,Z,Z,Z,Z,Z,Z,Z,Z,Z,Z,Z,Z,Z,Z,Z,Z,Z,Z,Z,Z,Z,Z,Z,Z,Z,Z,Z]) (fun v a y b c => [.cells g v ((a ++ y :: (b ++ c)).map p64)]) (fun _ a _ _ _ => a.length) v (x.take i) y0 [] (x.drop (i + 1)) ⟨by rw [hx0]; exact hp,by simp; omega,by simpa using hs,fun z hz => by cases hz⟩ (by rw [hti]; exact by simp only [PWeak_nil,PWeak_junk,PWeak_same,Int.cast_ofNat_Int,List.length_append,List.length_cons,List.length_nil,Nat.zero_add]) (by rw [hx0]) ?_
  intro v a y b c' ⟨hp2,hl2,hs2,hb2⟩ ih2
  have hlen := hp2.length_eq
  simp only [List.length_append,List.length_cons] at hlen
  have out : (∀ z ∈ a,z ≤ y) → ((a ++ y :: (b ++ c')).take (i + 1)).Pairwise (· ≤ ·) := fun h => by
    have e : (a ++ y :: (b ++ c')).take (i + 1) = a ++ y :: b := by
      rw [show a ++ y :: (b ++ c') = (a ++ y :: b) ++ c' by simp,List.take_left' (by simp; omega)]
    rw [e]
    rw [List.pairwise_append] at hs2 ⊢
    refine ⟨hs2.1,List.pairwise_cons.2 ⟨hb2,hs2.2.1⟩,fun p hp q hq => ?_⟩
    rcases List.mem_cons.1 hq with rfl | hq
    · exact h p hp
    · exact hs2.2.2 p hp q hq
  rcases List.eq_nil_or_concat a with rfl | ⟨a,z,rfl⟩
  · refine SemW_go (by kernel_rfl) ?_
    simp only [PP,P1,P2,P3,P4,P5,P6,P7,P8,P9,P10,P11,P12,P13,P14,L1,P15,N1,N2,N3,N4,N5,N6,N7,I1,I2,I3,I4,I5,I6,I7,reduceIte,reduceCtorEq,Int.lt_irrefl,hwi]
    exact SemW_to (ih (i + 1) v (y :: (b ++ c')) ⟨by omega,hp2,out (by simp)⟩ (by omega)) (by simp only [PWeak_nil,PWeak_junk,PWeak_same,Int.cast_ofNat_Int,List.length_append,List.length_cons,List.length_nil,Nat.zero_add]) (by simp)
  · simp only [List.concat_eq_append] at *
    obtain ⟨X,hX⟩ : ∃ X,X = (a ++ [z]) ++ y :: (b ++ c') := ⟨_,rfl⟩
    obtain ⟨j,hj⟩ : ∃ j,j = a.length := ⟨_,rfl⟩
    have hjl : (a ++ [z]).length = j + 1 := by simp [hj]
    have e1 : X[j]? = some z := by simp [hX,hj]
    have e2 : X[j + 1]? = some y := by simp [hX,hj,List.getElem?_append_right]
    have hXl : X.length = n := by rw [hX,hp2.length_eq,hn]
    have hjn : j + 1 < n := by have := getSome_lt e2; omega
    have m1 : (X.map p64)[j]? = some (p64 z) := by rw [List.getElem?_map,e1]; rfl
    have m2 : (X.map p64)[j + 1]? = some (p64 y) := by rw [List.getElem?_map,e2]; rfl
    have q0 : (0 : Int) < ((j + 1 : Nat) : Int) := by omega
    have q1 : (0 : Int) ≤ ((j + 1 : Nat) : Int) := by omega
    have q2 : ((j + 1 : Nat) : Int) < n := by omega
    have q3 : (0 : Int) ≤ (j : Int) := by omega
    have q4 : (j : Int) < n := by omega
    have w2 : IntKind.i64.wrap (((j + 1 : Nat) : Int) - 1) = (j : Int) := by rw [wrap64 (by omega) (by omega)]; omega
    rw [← hX,hjl]
    refine SemW_go (by kernel_rfl) ?_
    simp only [PP,P1,P2,P3,P4,P5,P6,P7,P8,P9,P10,P11,P12,P13,P14,L1,P15,N1,N2,N3,N4,N5,N6,N7,I1,I2,I3,I4,I5,I6,I7,reduceIte,reduceCtorEq,q0,q1,q2,q3,q4,w2,m1,m2,e1,e2]
    refine less13_p T ?_
    simp only [PP,P1,P2,P3,P4,P5,P6,P7,P8,P9,P10,P11,P12,P13,P14,L1,P15,N1,N2,N3,N4,N5,N6,N7,I1,I2,I3,I4,I5,I6,I7,reduceIte,reduceCtorEq]
    refine QIf.intro (fun d => ?_) (fun d => ?_)
    · simp only [PP,P1,P2,P3,P4,P5,P6,P7,P8,P9,P10,P11,P12,P13,P14,L1,P15,N1,N2,N3,N4,N5,N6,N7,I1,I2,I3,I4,I5,I6,I7,reduceIte,reduceCtorEq,d,q0,q1,q2,q3,q4,w2,m1,m2,e1,e2]
      subst hj
      refine ⟨by omega,by omega,SemW_to (ih2 (v + 1 + 1) a y (z :: b) c' ⟨(List.Perm.append_left a (List.Perm.swap z y _)).trans (by simpa using hp2),by simp at hl2 ⊢; omega,by simpa using hs2,fun w hw => ?_⟩ (by simp)) (by simp only [PWeak_nil,PWeak_junk,PWeak_same,Int.cast_ofNat_Int,List.length_append,List.length_cons,List.length_nil,Nat.zero_add]) (by simp [hX,List.getElem?_append_right])⟩
      rcases List.mem_cons.1 hw with rfl | hw
      · omega
      · exact hb2 w hw
    · simp only [PP,P1,P2,P3,P4,P5,P6,P7,P8,P9,P10,P11,P12,P13,P14,L1,P15,N1,N2,N3,N4,N5,N6,N7,I1,I2,I3,I4,I5,I6,I7,reduceIte,reduceCtorEq,d,hwi]
      have hw0 : ∀ w ∈ a ++ [z],w ≤ y := fun w hw => by
        rcases List.mem_append.1 hw with hw | hw
        · have h1 := (List.pairwise_append.1 (List.pairwise_append.1 hs2).1).2.2 w hw z (by simp)
          omega
        · rw [List.mem_singleton] at hw; omega
      exact SemW_to (ih (i + 1) v X ⟨by omega,by rw [hX]; exact hp2,by rw [hX]; exact out hw0⟩ (by omega)) (by simp only [PWeak_nil,PWeak_junk,PWeak_same,Int.cast_ofNat_Int,List.length_append,List.length_cons,List.length_nil,Nat.zero_add]) rfl
end
end Go.Am.Ar

