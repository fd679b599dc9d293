/- The law that improving a strategy decreases no value. -/
import Derived.Test.YtgapkfaikhlipaaImproveMonotoneG4
set_option linter.unusedVariables false
set_option linter.unusedSimpArgs false
set_option maxRecDepth 10000
namespace Go.Am.Ar
open Go.Am.PV renaming junk → Z
open Go.Am renaming pchk → P1,pold → P2,PKNo → P3,ppack → P4,PObj.under → P5,pput → P6,ptset → P7,ptget → P8,pev → P9,ofAV → P10,ofAV1 → P11,ppad → P12,pfill → P13,prepl → P14,AO.effect → P15
open List renaming replicate → L1
open Nat renaming reduceAdd → N1,reduceSub → N2,reduceMul → N3,reduceLT → N4,reduceLeDiff → N5,reduceEqDiff → N6,reduceBEq → N7
open Int renaming reduceToNat → I1,reduceLT → I2,reduceLE → I3,reduceEq → I4,reduceAdd → I5,reduceSub → I6,reduceNeg → I7
def mxP (pr : List Int) : Int → List Int → Int
  | m,[] => m
  | m,v :: l => mxP pr (max m (prI pr v)) l
theorem winL_mx {n : Int} {pr : List Int} : ∀ (l : List Int) (m : Int),(∀ v ∈ l,0 ≤ v ∧ v < n) → winL n pr m l = .tuple [p8 (IntKind.u8.wrap ((mxP pr m l).tmod 2)),p64 0]
  | [],m,_ => rfl
  | v :: l,m,h => by
    have hv := h v (by simp)
    rw [winL,if_neg (by omega),if_neg (by omega)]
    exact winL_mx l _ fun x hx => h x (by simp [hx])
theorem mxP_eq {pr : List Int} {w : Int} : ∀ (l : List Int) (m : Int),m ≤ prI pr w → (m = prI pr w ∨ w ∈ l) → (∀ v ∈ l,prI pr v ≤ prI pr w) → mxP pr m l = prI pr w
  | [],m,_,h,_ => by
    rcases h with h | h
    · exact h
    · cases h
  | v :: l,m,hm,h,hl => by
    rw [mxP]
    have hv := hl v (by simp)
    refine mxP_eq l _ (by omega) ?_ fun x hx => hl x (by simp [hx])
    rcases h with h | h
    · exact .inl (by omega)
    · rcases List.mem_cons.1 h with rfl | h
      · exact .inl (by omega)
      · exact .inr h
theorem rel_pr {pr : List Int} {u w : Int} (h : relI pr u w ≤ 0) : prI pr u ≤ prI pr w := by
  refine Int.not_lt.1 fun q => ?_
  have := relI_pos.2 (.inl q)
  omega
theorem win_fol {ow pr : List Int} {su : List (List Int)} {st : List Int} {v : Nat} (hc : checkM ow pr su = 0) (h : MvOk su ow.length st) (hv : v < ow.length) :
    winM ow pr su (playL st (ow.length + 1) v []).2 = .tuple [p8 ((prI pr (folA ow pr su st v).cy).tmod 2),p64 0] := by
  have V := valid_of hc
  have hp := h.play V hc hv
  obtain ⟨_,v0,v1,_,f,hf1,hf2,m,k,hP⟩ := play_facts hp
  obtain ⟨hnd,hran,hlen,hne⟩ := hP.facts (fun v hv => (hf2 v hv).1) (by omega)
  have hran2 : ∀ x ∈ (playL st (ow.length + 1) v []).2,0 ≤ x ∧ x < ow.length := fun x hx => hran x (List.mem_append.2 (.inr hx))
  obtain ⟨x,xs,hL⟩ : ∃ x xs,(playL st (ow.length + 1) v []).2 = x :: xs := by
    cases hl : (playL st (ow.length + 1) v []).2 with
    | nil => exact absurd hl hne
    | cons x xs => exact ⟨x,xs,rfl⟩
  have hcy : (folA ow pr su st v).cy = maxR pr x xs := by
    unfold folA; rw [if_pos hp]; unfold folX; rw [hL]; rfl
  rw [hcy]
  rw [hL] at hran2 ⊢
  unfold winM
  rw [if_pos hc,if_neg (by simp only [List.length_cons]; omega),winL_mx _ _ hran2]
  have hmx := maxR_ge pr xs x
  rw [mxP_eq (w := maxR pr x xs) _ _ (V.prI _).1]
  · have := V.prI (maxR pr x xs)
    congr 3
    rw [Int.tmod_eq_emod_of_nonneg this.1]
    exact Go.Am.wrap8 (by omega) (by omega)
  · refine .inr ?_
    rcases maxR_mem pr xs x with e | e
    · rw [e]; simp
    · exact List.mem_cons_of_mem _ e
  · intro y hy
    refine rel_pr ?_
    rcases List.mem_cons.1 hy with rfl | hy
    · exact hmx.1
    · exact hmx.2 y hy
theorem even_up {pr : List Int} (hp : ∀ v,0 ≤ prI pr v) {x y : Vl} (h : 0 ≤ ordI pr x y) (he : (prI pr y.cy).tmod 2 ≠ 1) : (prI pr x.cy).tmod 2 = 0 := by
  have g := g_of (s := 1) (.inl rfl) hp (by rw [Int.one_mul]; exact h)
  rw [Int.one_mul] at g
  rcases par_cases (hp x.cy) with ⟨e1,e2⟩ | ⟨e1,e2⟩
  · exact e1
  · rcases par_cases (hp y.cy) with ⟨f1,f2⟩ | ⟨f1,f2⟩
    · unfold cyI at g
      rw [e2,f2,if_pos (by decide)] at g; omega
    · exact absurd f1 he
theorem valsM_get {ow pr : List Int} {su : List (List Int)} {st : List Int} {v : Nat} (hv : v < st.length) : (valsM ow pr su st)[v]? = some (folA ow pr su st v) := tabA_get hv
theorem tmod_rng {a b : Int} (ha : 0 ≤ a) (hb : 0 < b) : 0 ≤ a.tmod b ∧ a.tmod b < b := by
  rw [Int.tmod_eq_emod_of_nonneg ha]
  exact ⟨Int.emod_nonneg _ (by omega),Int.emod_lt_of_pos _ hb⟩
def fulM (ow : List Int) (su : List (List Int)) (st ms : List Int) (v : Nat) : Int :=
  if ow.getD v 0 = 0 then st.getD v 0 else (su.getD v []).getD ((if v < ms.length then ms.getD v 0 else 0).tmod (su.getD v []).length).toNat 0
theorem fulM_mem {ow pr : List Int} {su : List (List Int)} {st ms : List Int} (V : Valid ow pr su) (hm : ∀ x ∈ ms,0 ≤ x) {v : Nat} (hv : v < ow.length) :
    ∃ row u,su[v]? = some row ∧ 0 < row.length ∧ row[((if v < ms.length then ms.getD v 0 else 0).tmod row.length).toNat]? = some u ∧ u ∈ row ∧ (su.getD v []).getD ((if v < ms.length then ms.getD v 0 else 0).tmod (su.getD v []).length).toNat 0 = u ∧ 0 ≤ (if v < ms.length then ms.getD v 0 else 0).tmod row.length ∧ (if v < ms.length then ms.getD v 0 else 0).tmod row.length < row.length := by
  have hvs : v < su.length := by rw [V.s]; exact hv
  obtain ⟨_,_,_,h0,_⟩ := V.row v hvs
  obtain ⟨row,gr⟩ := some_of hvs
  have er : su[v] = row := by rw [List.getElem?_eq_getElem hvs] at gr; cases gr; rfl
  rw [er] at h0
  have e2 : su.getD v [] = row := by simp [List.getD,gr]
  have hnn : 0 ≤ (if v < ms.length then ms.getD v 0 else 0) := by
    split
    · rename_i q
      obtain ⟨x,hx⟩ := some_of q
      rw [getD_some hx]; exact hm x (List.mem_of_getElem? hx)
    · exact Int.le_refl _
  have hr := tmod_rng hnn (show (0 : Int) < row.length by omega)
  obtain ⟨u,hu⟩ := some_of (xs := row) (k := ((if v < ms.length then ms.getD v 0 else 0).tmod row.length).toNat) (by omega)
  exact ⟨row,u,gr,h0,hu,List.mem_of_getElem? hu,by rw [e2]; exact getD_some hu,hr⟩
section
variable {tab : FuncId → Option AF} (T : HasA tab)
include T
set_option maxHeartbeats 4000000 in
theorem imono_p {F : GF} {ow pr st ms : List Int} {su : List (List Int)} {fr : Int} (ho : ∀ x ∈ ow,0 ≤ x) (hms : ∀ x ∈ ms,0 ≤ x ∧ x ≤ 255) (hfr : 0 ≤ fr ∧ fr ≤ 255) :
    SemC tab 8 [.agg (gmF F ow pr su),slI false false .i64 st,slI false false .u8 ms,p8 fr] [] fun r _ => r = .bool true := by
  refine SemC_fn T.h8 ?_
  simp only [af8,PP,P1,P2,P3,P4,P5,P6,P7,P8,P9,P10,P11,P12,P13,P14,L1,P15,N1,N2,N3,N4,N5,N6,N7,I1,I2,I3,I4,I5,I6,I7,reduceIte,reduceCtorEq]
  refine long32_p T (ls := [st]) (f5 := true) (o5 := true) (f6 := false) (o6 := false) (by show 1 < 1000000000000; omega) (fun r hr => ?_)
  cases r with
  | true =>
    simp only [PP,P1,P2,P3,P4,P5,P6,P7,P8,P9,P10,P11,P12,P13,P14,L1,P15,N1,N2,N3,N4,N5,N6,N7,I1,I2,I3,I4,I5,I6,I7,reduceIte,reduceCtorEq]
    refine SemC_true T.awake ?_
    simp only [PP,P1,P2,P3,P4,P5,P6,P7,P8,P9,P10,P11,P12,P13,P14,L1,P15,N1,N2,N3,N4,N5,N6,N7,I1,I2,I3,I4,I5,I6,I7,reduceIte,reduceCtorEq]
  | false =>
  obtain ⟨hl,h14⟩ := hr rfl
  have S := longM_false hl
  have B := S.bnd
  have lst : st.length < big := by have := S.l st (by simp); show _ < 1000000000000; omega
  simp only [PP,P1,P2,P3,P4,P5,P6,P7,P8,P9,P10,P11,P12,P13,P14,L1,P15,N1,N2,N3,N4,N5,N6,N7,I1,I2,I3,I4,I5,I6,I7,reduceIte,reduceCtorEq]
  refine QIf.intro (fun c0 => ?_) (fun c0 => ?_)
  · simp only [PP,P1,P2,P3,P4,P5,P6,P7,P8,P9,P10,P11,P12,P13,P14,L1,P15,N1,N2,N3,N4,N5,N6,N7,I1,I2,I3,I4,I5,I6,I7,reduceIte,reduceCtorEq,c0]
    refine SemC_true T.awake ?_
    simp only [PP,P1,P2,P3,P4,P5,P6,P7,P8,P9,P10,P11,P12,P13,P14,L1,P15,N1,N2,N3,N4,N5,N6,N7,I1,I2,I3,I4,I5,I6,I7,reduceIte,reduceCtorEq]
  have hml : ms.length ≤ 60 := by omega
  simp only [PP,P1,P2,P3,P4,P5,P6,P7,P8,P9,P10,P11,P12,P13,P14,L1,P15,N1,N2,N3,N4,N5,N6,N7,I1,I2,I3,I4,I5,I6,I7,reduceIte,reduceCtorEq,c0]
  refine SemC_true T.awake ?_
  simp only [PP,P1,P2,P3,P4,P5,P6,P7,P8,P9,P10,P11,P12,P13,P14,L1,P15,N1,N2,N3,N4,N5,N6,N7,I1,I2,I3,I4,I5,I6,I7,reduceIte,reduceCtorEq]
  refine valuation_p T B h14 lst (fun e => ?_) (fun e st1 R1 => ?_)
  · simp only [PP,P1,P2,P3,P4,P5,P6,P7,P8,P9,P10,P11,P12,P13,P14,L1,P15,N1,N2,N3,N4,N5,N6,N7,I1,I2,I3,I4,I5,I6,I7,reduceIte,reduceCtorEq]
    refine Improve_p T B h14 lst (fun _ => ?_) (fun e2 => absurd e2 e)
    have w0 : IntKind.i64.wrap 0 = 0 := by decide
    simp only [PP,P1,P2,P3,P4,P5,P6,P7,P8,P9,P10,P11,P12,P13,P14,L1,P15,N1,N2,N3,N4,N5,N6,N7,I1,I2,I3,I4,I5,I6,I7,reduceIte,reduceCtorEq,e,w0]
  simp only [PP,P1,P2,P3,P4,P5,P6,P7,P8,P9,P10,P11,P12,P13,P14,L1,P15,N1,N2,N3,N4,N5,N6,N7,I1,I2,I3,I4,I5,I6,I7,reduceIte,reduceCtorEq]
  refine Improve_p T B h14 lst (fun e2 => absurd e e2) (fun _ st2 R2 => ?_)
  obtain ⟨hc,hstl,_⟩ := comE_ok e
  have V := valid_of hc
  have hp := fun v => (V.prI v).1
  have n0 := V.n0
  have n1 := V.n1
  have hpl := V.p
  have hsl := V.s
  have l1 : (valsM ow pr su st1).length = ow.length := by rw [valsM,tabA_len,R1.ok.l]
  have h01 : ∀ v,v < ow.length → ow.getD v 0 = 0 ∨ ow.getD v 0 = 1 := fun v hv => by
    obtain ⟨_,_,h1,_,_⟩ := V.row v (by omega)
    obtain ⟨x,hx⟩ := some_of hv
    have := ho x (List.mem_of_getElem? hx)
    rw [getD_some hx] at h1 ⊢; omega
  obtain ⟨ch,hch⟩ : ∃ ch,ch = chgM 1 ow pr su (valsM ow pr su st2) 0 st2 := ⟨_,rfl⟩
  have hil : (impR ow pr su st2).length = ow.length := impR_len
  rw [← hch]
  simp only [PP,P1,P2,P3,P4,P5,P6,P7,P8,P9,P10,P11,P12,P13,P14,L1,P15,N1,N2,N3,N4,N5,N6,N7,I1,I2,I3,I4,I5,I6,I7,reduceIte,reduceCtorEq]
  refine rWrong_p T B ho lst ?_
  rw [e]
  simp only [PP,P1,P2,P3,P4,P5,P6,P7,P8,P9,P10,P11,P12,P13,P14,L1,P15,N1,N2,N3,N4,N5,N6,N7,I1,I2,I3,I4,I5,I6,I7,reduceIte,reduceCtorEq,hil]
  have lI : (impR ow pr su st2).length < big := by rw [hil]; show _ < 1000000000000; omega
  have eI := impR_ok hc R2
  have hlI : slI false true .i64 (impR ow pr su st2) = .sl false true 1 ow.length ((impR ow pr su st2).map p64) := by unfold slI; rw [hil]
  refine valuation_p T B h14 lI (fun e2 => absurd eI e2) (fun _ st3 R3 => ?_)
  have Q3 : RespOk ow pr su (impM 1 ow pr su (valsM ow pr su st2) 0 st2) st3 := R3.congr fun v hv ho => impR_same hv ho
  have e12 : ∀ v : Nat,v < ow.length → folA ow pr su st1 v = folA ow pr su st2 v := fun v hv => R1.uniq hc R2 hv
  have up : ∀ v : Nat,v < ow.length → ordI pr (folA ow pr su st1 v) (folA ow pr su st3 v) ≤ 0 := fun v hv => by
    have h1 := R2.up hc Q3 h01 hv
    rw [← e12 v hv] at h1
    have an := (ord3_ord hp).anti ⟨_,(val_ok hc R1.ok hv).nn⟩ ⟨_,(val_ok hc R3.ok hv).nn⟩
    simp only at an
    omega
  have l3 : (valsM ow pr su st3).length = ow.length := by rw [valsM,tabA_len,R3.ok.l]
  simp only [PP,P1,P2,P3,P4,P5,P6,P7,P8,P9,P10,P11,P12,P13,P14,L1,P15,N1,N2,N3,N4,N5,N6,N7,I1,I2,I3,I4,I5,I6,I7,reduceIte,reduceCtorEq]
  refine loop2 (fun (k : Nat) (more : Bool) => k ≤ ow.length ∧ (more = true ↔ ∃ v : Nat,v < k ∧ ordI pr (folA ow pr su st1 v) (folA ow pr su st3 v) < 0)) (fun k more => [Z,slI false false .i64 st,slI false false .u8 ms,p8 fr,.ptr 0 0 0,Z,Z,Z,Z,.sl false true 3 ow.length (vlsL (valsM ow pr su st1)),Z,slI false true .i64 (impR ow pr su st2),.bool ch,Z,.sl false true 3 ow.length (vlsL (valsM ow pr su st3)),Z,.bool more,p64 k,Z,Z,Z,Z,Z,Z,Z,Z,Z,Z,Z,Z,Z,Z,Z,Z,Z,Z,Z,Z,Z,Z,Z,Z,Z,Z,Z,Z,Z,Z,Z,Z,Z,Z,Z,Z,Z,Z,Z,Z,Z,Z,Z,Z,Z,Z,Z,Z,Z,Z,Z,Z,Z,Z,Z,Z,Z,Z,Z,Z,Z,Z,Z,Z,Z,Z,Z,Z,Z,Z,Z,Z,Z,Z,Z,Z,Z,Z,Z,Z,Z,Z,Z,Z,Z,Z,Z,Z,Z,Z,Z,Z,Z,Z,Z,Z,Z,Z,Z,Z,Z,Z,Z,Z,Z,Z,Z,Z,Z,Z,Z,Z,Z,Z,Z,Z,Z,Z,Z,Z,Z,Z,Z,Z,Z,Z,Z,Z,Z,Z,Z,Z,Z,Z,Z,Z,Z,Z,Z,Z,Z,Z,Z,Z,Z,Z,Z,Z,Z,Z,Z,Z,Z,Z,Z,Z,Z,Z,Z,Z,Z,Z,Z,Z,Z,Z,Z,Z,Z,Z,Z,Z,Z,Z,Z,Z,Z,Z,Z,Z,Z,Z,Z,Z,Z,Z,Z,Z,Z,Z,Z,Z,Z,Z,Z,Z,Z,Z,Z,Z,Z,Z,Z,Z,Z,Z,Z,Z,Z,Z,Z,Z,Z,Z,Z,Z,Z,Z,Z,Z,Z,Z,Z,Z,Z,Z,Z,Z,Z,Z,Z,Z,Z,Z,Z,Z,Z,Z,Z,Z,Z,Z,Z,Z,Z,Z,Z,Z,Z,Z,Z,Z,Z,Z,Z,Z,Z,Z,Z,Z,Z,Z,Z,Z,Z,Z,Z])
    (fun _ _ => [.cells 0 0 (gmF F ow pr su)]) (fun k _ => ow.length - k) 0 false ⟨Nat.zero_le _,⟨fun h => (by cases h),fun ⟨v,h,_⟩ => (by omega)⟩⟩ (by simp only [PWeak_nil,PWeak_junk,PWeak_same,Int.cast_ofNat_Int,List.length_append,List.length_cons,List.length_nil,Nat.zero_add]) rfl ?_
  intro k more ⟨hle,hmore⟩ ih
  refine SemW_go (by kernel_rfl) ?_
  simp only [PP,P1,P2,P3,P4,P5,P6,P7,P8,P9,P10,P11,P12,P13,P14,L1,P15,N1,N2,N3,N4,N5,N6,N7,I1,I2,I3,I4,I5,I6,I7,reduceIte,reduceCtorEq]
  refine QIf.intro (fun d => ?_) (fun d => ?_)
  · have hk : k < ow.length := by omega
    have hw := wrap_succ (k := k) (by show _ < 1000000000000; omega)
    have k0 : (0 : Int) ≤ k := by omega
    have g1 := psub_vls (valsM_get (ow := ow) (pr := pr) (su := su) (st := st1) (v := k) (by rw [R1.ok.l]; exact hk))
    have g3 := psub_vls (valsM_get (ow := ow) (pr := pr) (su := su) (st := st3) (v := k) (by rw [R3.ok.l]; exact hk))
    have b1 : k * 3 + 3 ≤ (vlsL (valsM ow pr su st1)).length := by rw [vlsL_len]; omega
    have b3 : k * 3 + 3 ≤ (vlsL (valsM ow pr su st3)).length := by rw [vlsL_len]; omega
    have ok1 := val_ok hc R1.ok hk
    have ok3 := val_ok hc R3.ok hk
    obtain ⟨c1,c2⟩ := cmp_ok hc ok1 ok3
    have u := up k hk
    simp only [PP,P1,P2,P3,P4,P5,P6,P7,P8,P9,P10,P11,P12,P13,P14,L1,P15,N1,N2,N3,N4,N5,N6,N7,I1,I2,I3,I4,I5,I6,I7,reduceIte,reduceCtorEq,d,k0,g1,g3,b1,b3]
    refine vcompare_p T B (ok1.bg n1) (ok3.bg n1) ?_
    rw [c1,c2]
    obtain ⟨o,go⟩ := some_of (xs := ow) (k := k) hk
    have eo : ow.getD k 0 = o := getD_some go
    have gi := impR_at (ow := ow) (pr := pr) (su := su) (st1 := st2) hk
    obtain ⟨y,hy⟩ : ∃ y,y = (if ow.getD k 0 = 1 then -1 else (impM 1 ow pr su (valsM ow pr su st2) 0 st2).getD k 0) := ⟨_,rfl⟩
    rw [← hy] at gi
    have hyo : decide (y < 0) = decide (o = 1) := by
      congr 1; apply propext
      rw [hy,eo]
      constructor
      · intro h
        refine Classical.byContradiction fun q => ?_
        rw [if_neg q] at h
        obtain ⟨h',_,_⟩ := imp_ok hc (s := 1) (.inl rfl) (player := 0) R2.ok
        have := h'.rng V hk
        omega
      · intro h; rw [if_pos h]; decide
    have u' : ¬ 0 < ordI pr (folA ow pr su st1 k) (folA ow pr su st3 k) := by omega
    have xx : ∀ b : Bool,(!(b == b)) = false := by decide
    have ki : (k : Int) < (impR ow pr su st2).length := by omega
    simp only [PP,P1,P2,P3,P4,P5,P6,P7,P8,P9,P10,P11,P12,P13,P14,L1,P15,N1,N2,N3,N4,N5,N6,N7,I1,I2,I3,I4,I5,I6,I7,reduceIte,reduceCtorEq,u',gi,go,k0,d,hyo,xx,ki]
    cases hmo : more with
    | true =>
      simp only [PP,P1,P2,P3,P4,P5,P6,P7,P8,P9,P10,P11,P12,P13,P14,L1,P15,N1,N2,N3,N4,N5,N6,N7,I1,I2,I3,I4,I5,I6,I7,reduceIte,reduceCtorEq,hw]
      refine SemW_weak (ih (k + 1) true ⟨by omega,⟨fun _ => ?_,fun _ => rfl⟩⟩ (by omega)) (by simp only [PWeak_nil,PWeak_junk,PWeak_same,Int.cast_ofNat_Int,List.length_append,List.length_cons,List.length_nil,Nat.zero_add])
      obtain ⟨v,h1,h2⟩ := hmore.1 hmo
      exact ⟨v,by omega,h2⟩
    | false =>
      simp only [PP,P1,P2,P3,P4,P5,P6,P7,P8,P9,P10,P11,P12,P13,P14,L1,P15,N1,N2,N3,N4,N5,N6,N7,I1,I2,I3,I4,I5,I6,I7,reduceIte,reduceCtorEq,hw]
      have hiff : decide (ordI pr (folA ow pr su st1 k) (folA ow pr su st3 k) < 0) = true ↔ ∃ v : Nat,v < k + 1 ∧ ordI pr (folA ow pr su st1 v) (folA ow pr su st3 v) < 0 := by
        constructor
        · intro h; exact ⟨k,by omega,of_decide_eq_true h⟩
        · rintro ⟨v,h1,h2⟩
          by_cases q : v = k
          · subst q; exact decide_eq_true h2
          · have := hmore.2 ⟨v,by omega,h2⟩
            rw [hmo] at this; cases this
      exact SemW_weak (ih (k + 1) (decide (ordI pr (folA ow pr su st1 k) (folA ow pr su st3 k) < 0)) ⟨by omega,hiff⟩ (by omega)) (by simp only [PWeak_nil,PWeak_junk,PWeak_same,Int.cast_ofNat_Int,List.length_append,List.length_cons,List.length_nil,Nat.zero_add])
  have hkn : k = ow.length := by omega
  rw [hkn] at hmore
  have heq : more = false → ∀ v : Nat,v < ow.length → folA ow pr su st3 v = folA ow pr su st2 v := fun hm v hv => by
    have hz : ordI pr (folA ow pr su st1 v) (folA ow pr su st3 v) = 0 := by
      have h1 := up v hv
      refine Classical.byContradiction fun q => ?_
      have := hmore.2 ⟨v,hv,by omega⟩
      rw [hm] at this; cases this
    rw [← e12 v hv]
    exact ((ordI_zero hp (val_ok hc R1.ok hv).rise (val_ok hc R3.ok hv).rise).1 hz).symm
  cases hcc : ch with
  | true =>
    have again : ∀ st4,RespOk ow pr su (comM ow su (impR ow pr su st2)) st4 → more = false → chgM 1 ow pr su (valsM ow pr su st4) 0 st4 = false := fun st4 R4 hm =>
      R2.stay hc (R4.congr fun v hv ho => impR_same hv ho) fun v hv => by rw [R4.uniq hc R3 hv]; exact heq hm v hv
    cases hmo : more with
    | true =>
      simp only [PP,P1,P2,P3,P4,P5,P6,P7,P8,P9,P10,P11,P12,P13,P14,L1,P15,N1,N2,N3,N4,N5,N6,N7,I1,I2,I3,I4,I5,I6,I7,reduceIte,reduceCtorEq,d]
      refine Improve_p T B h14 lI (fun e2 => absurd eI e2) (fun _ st4 R4 => ?_)
      simp only [PP,P1,P2,P3,P4,P5,P6,P7,P8,P9,P10,P11,P12,P13,P14,L1,P15,N1,N2,N3,N4,N5,N6,N7,I1,I2,I3,I4,I5,I6,I7,reduceIte,reduceCtorEq]
    | false =>
      simp only [PP,P1,P2,P3,P4,P5,P6,P7,P8,P9,P10,P11,P12,P13,P14,L1,P15,N1,N2,N3,N4,N5,N6,N7,I1,I2,I3,I4,I5,I6,I7,reduceIte,reduceCtorEq,d]
      refine Improve_p T B h14 lI (fun e2 => absurd eI e2) (fun _ st4 R4 => ?_)
      rw [again st4 R4 hmo]
      simp only [PP,P1,P2,P3,P4,P5,P6,P7,P8,P9,P10,P11,P12,P13,P14,L1,P15,N1,N2,N3,N4,N5,N6,N7,I1,I2,I3,I4,I5,I6,I7,reduceIte,reduceCtorEq]
  | false =>
  have hmf : more = false := by
    cases hmo : more with
    | false => rfl
    | true =>
      exfalso
      obtain ⟨v,hv,hlt⟩ := hmore.1 hmo
      have e : impM 1 ow pr su (valsM ow pr su st2) 0 st2 = st2 := by
        rw [hcc] at hch
        have hch := hch.symm
        unfold chgM at hch
        rw [decide_eq_false_iff_not,Classical.not_not] at hch; exact hch
      rw [e] at Q3
      have h2 : RespOk ow pr su st2 st2 := ⟨R2.ok,fun _ _ _ => rfl,R2.best⟩
      rw [e12 v hv,h2.uniq hc Q3 hv] at hlt
      have := (ord3_ord hp).self ⟨_,(val_ok hc R3.ok hv).nn⟩
      simp only at this
      omega
  rw [hmf]
  have wfr : IntKind.i64.wrap fr = fr := wrap64 (by omega) (by omega)
  have nz : (ow.length : Int) ≠ 0 := by omega
  have pz : prepl ow.length [PV.int .i64 0] = (List.replicate ow.length (0 : Int)).map p64 := by rw [prepl_one]; simp
  simp only [PP,P1,P2,P3,P4,P5,P6,P7,P8,P9,P10,P11,P12,P13,P14,L1,P15,N1,N2,N3,N4,N5,N6,N7,I1,I2,I3,I4,I5,I6,I7,reduceIte,reduceCtorEq,d,wfr,prem nz,pz]
  obtain ⟨at',hat⟩ : ∃ a : Nat,fr.tmod ow.length = a := ⟨(fr.tmod ow.length).toNat,by have := tmod_rng hfr.1 (show (0 : Int) < ow.length by omega); omega⟩
  have hatl : at' < ow.length := by have := tmod_rng hfr.1 (show (0 : Int) < ow.length by omega); omega
  rw [hat]
  refine ⟨by omega, ?_⟩
  refine loop2 (fun (k ver : Nat) => k ≤ ow.length) (fun k ver => [Z,slI false false .i64 st,slI false false .u8 ms,Z,.ptr 0 0 0,Z,Z,Z,Z,.sl false true 3 ow.length (vlsL (valsM ow pr su st1)),Z,Z,Z,Z,Z,Z,Z,Z,Z,Z,Z,Z,Z,p64 at',.ref 1 0 1 0 ow.length,p64 k,Z,Z,Z,Z,Z,Z,Z,Z,Z,Z,Z,Z,Z,Z,Z,Z,Z,Z,Z,Z,Z,Z,Z,Z,Z,Z,Z,Z,Z,Z,Z,Z,Z,Z,Z,Z,Z,Z,Z,Z,Z,Z,Z,Z,Z,Z,Z,Z,Z,Z,Z,Z,Z,Z,Z,Z,Z,Z,Z,Z,Z,Z,Z,Z,Z,Z,Z,Z,Z,Z,Z,Z,Z,Z,Z,Z,Z,Z,Z,Z,Z,Z,Z,Z,Z,Z,Z,Z,Z,Z,Z,Z,Z,Z,Z,Z,Z,Z,Z,Z,Z,Z,Z,Z,Z,Z,Z,Z,Z,Z,Z,Z,Z,Z,Z,Z,Z,Z,Z,Z,Z,Z,Z,Z,Z,Z,Z,Z,Z,Z,Z,Z,Z,Z,Z,Z,Z,Z,Z,Z,Z,Z,Z,Z,Z,Z,Z,Z,Z,Z,Z,Z,Z,Z,Z,Z,Z,Z,Z,Z,Z,Z,Z,Z,Z,Z,Z,Z,Z,Z,Z,Z,Z,Z,Z,Z,Z,Z,Z,Z,Z,Z,Z,Z,Z,Z,Z,Z,Z,Z,Z,Z,Z,Z,Z,Z,Z,Z,Z,Z,Z,Z,Z,Z,Z,Z,Z,Z,Z,Z,Z,Z,Z,Z,Z,Z,Z,Z,Z,Z,Z,Z,Z,Z,Z,Z,Z,Z,Z,Z,Z,Z,Z,Z,Z,Z,Z,Z,Z,Z,Z,Z,Z,Z,Z,Z,Z,Z,Z,Z,Z,Z,Z,Z,Z,Z,Z,Z,Z])
    (fun k ver => [.cells 0 0 (gmF F ow pr su),.cells 0 ver ((tabA ow.length fun v => if v < k then fulM ow su st ms v else 0).map p64)]) (fun k _ => ow.length - k) 0 0 (Nat.zero_le _) (by simp only [PWeak_nil,PWeak_junk,PWeak_same,Int.cast_ofNat_Int,List.length_append,List.length_cons,List.length_nil,Nat.zero_add]) (by
      have : (List.replicate ow.length (0 : Int)) = tabA ow.length fun v => if v < 0 then fulM ow su st ms v else 0 := tabA_ext (by simp) fun v hv => by rw [if_neg (by omega)]; simp [hv]
      rw [this]) ?_
  intro k ver hle ih
  obtain ⟨X,hX⟩ : ∃ X,X = tabA ow.length fun v => if v < k then fulM ow su st ms v else 0 := ⟨_,rfl⟩
  have hXl : X.length = ow.length := by rw [hX,tabA_len]
  rw [← hX]
  refine SemW_go (by kernel_rfl) ?_
  simp only [PP,P1,P2,P3,P4,P5,P6,P7,P8,P9,P10,P11,P12,P13,P14,L1,P15,N1,N2,N3,N4,N5,N6,N7,I1,I2,I3,I4,I5,I6,I7,reduceIte,reduceCtorEq]
  refine QIf.intro (fun d2 => ?_) (fun d2 => ?_)
  · have hk : k < ow.length := by omega
    have hw := wrap_succ (k := k) (by show _ < 1000000000000; omega)
    have k0 : (0 : Int) ≤ k := by omega
    have hkX : k < X.length := by omega
    obtain ⟨row,u,gr,hr0,gu,hur,eu,m0,m1⟩ := fulM_mem (ms := ms) (st := st) V (fun x hx => (hms x hx).1) hk
    obtain ⟨o,go⟩ := some_of (xs := ow) (k := k) hk
    have eo : ow.getD k 0 = o := getD_some go
    obtain ⟨x0,gx0⟩ := some_of (xs := st) (k := k) (by omega)
    have ex0 : st.getD k 0 = x0 := getD_some gx0
    have ks : (k : Int) < su.length := by omega
    have kst : (k : Int) < st.length := by omega
    have rz : (row.length : Int) ≠ 0 := by omega
    have hup : ∀ y,fulM ow su st ms k = y → X.set k y = tabA ow.length fun v => if v < k + 1 then fulM ow su st ms v else 0 := fun y hy => by
      rw [hX,tabA_set y hk]
      refine tabA_congr fun v hv => ?_
      by_cases e : v = k
      · subst e; rw [if_pos rfl,if_pos (show v < v + 1 by omega),hy]
      · rw [if_neg e]
        by_cases q : v < k
        · rw [if_pos q,if_pos (show v < k + 1 by omega)]
        · rw [if_neg q,if_neg (show ¬ v < k + 1 by omega)]
    have hset : ∀ y,(X.map p64).set k (p64 y) = (X.set k y).map p64 := fun y => by rw [List.map_set]
    have hset2 : ∀ y z,((X.set k y).map p64).set k (p64 z) = (X.set k z).map p64 := fun y z => by rw [← List.map_set,List.set_set]
    have hfin : (o = 0 → fulM ow su st ms k = x0) ∧ (o ≠ 0 → fulM ow su st ms k = u) := by
      unfold fulM
      rw [eo,ex0,eu]
      exact ⟨fun h => if_pos h,fun h => if_neg h⟩
    by_cases q : k < ms.length
    · obtain ⟨mv,gm⟩ := some_of q
      have hmv := hms mv (List.mem_of_getElem? gm)
      have wmv : IntKind.i64.wrap mv = mv := wrap64 (by omega) (by omega)
      have qq : (k : Int) < ms.length := by omega
      rw [if_pos q,getD_some gm] at gu m0 m1
      simp only [PP,P1,P2,P3,P4,P5,P6,P7,P8,P9,P10,P11,P12,P13,P14,L1,P15,N1,N2,N3,N4,N5,N6,N7,I1,I2,I3,I4,I5,I6,I7,reduceIte,reduceCtorEq,d2,qq,gm,k0,wmv,gr,ks,prem rz,m0,m1,gu,hkX,hset,go]
      refine ⟨by omega,QIf.intro (fun e => ?_) (fun e => ?_)⟩
      · have h1 := hup x0 (hfin.1 e)
        simp only [PP,P1,P2,P3,P4,P5,P6,P7,P8,P9,P10,P11,P12,P13,P14,L1,P15,N1,N2,N3,N4,N5,N6,N7,I1,I2,I3,I4,I5,I6,I7,reduceIte,reduceCtorEq,e,gx0,k0,kst,d2,hset2,hw,hkX,List.length_set]
        exact ⟨by omega,SemW_to (ih (k + 1) (ver + 1 + 1) (by omega) (by omega)) (by simp only [PWeak_nil,PWeak_junk,PWeak_same,Int.cast_ofNat_Int,List.length_append,List.length_cons,List.length_nil,Nat.zero_add]) (by rw [h1])⟩
      · have h1 := hup u (hfin.2 e)
        simp only [PP,P1,P2,P3,P4,P5,P6,P7,P8,P9,P10,P11,P12,P13,P14,L1,P15,N1,N2,N3,N4,N5,N6,N7,I1,I2,I3,I4,I5,I6,I7,reduceIte,reduceCtorEq,e,hw]
        exact SemW_to (ih (k + 1) (ver + 1) (by omega) (by omega)) (by simp only [PWeak_nil,PWeak_junk,PWeak_same,Int.cast_ofNat_Int,List.length_append,List.length_cons,List.length_nil,Nat.zero_add]) (by rw [h1])
    · have qq : ¬ (k : Int) < ms.length := by omega
      rw [if_neg q] at gu m0 m1
      simp only [PP,P1,P2,P3,P4,P5,P6,P7,P8,P9,P10,P11,P12,P13,P14,L1,P15,N1,N2,N3,N4,N5,N6,N7,I1,I2,I3,I4,I5,I6,I7,reduceIte,reduceCtorEq,d2,qq,k0,gr,ks,prem rz,m0,m1,gu,hkX,hset,go]
      refine ⟨by omega,QIf.intro (fun e => ?_) (fun e => ?_)⟩
      · have h1 := hup x0 (hfin.1 e)
        simp only [PP,P1,P2,P3,P4,P5,P6,P7,P8,P9,P10,P11,P12,P13,P14,L1,P15,N1,N2,N3,N4,N5,N6,N7,I1,I2,I3,I4,I5,I6,I7,reduceIte,reduceCtorEq,e,gx0,k0,kst,d2,hset2,hw,hkX,List.length_set]
        exact ⟨by omega,SemW_to (ih (k + 1) (ver + 1 + 1) (by omega) (by omega)) (by simp only [PWeak_nil,PWeak_junk,PWeak_same,Int.cast_ofNat_Int,List.length_append,List.length_cons,List.length_nil,Nat.zero_add]) (by rw [h1])⟩
      · have h1 := hup u (hfin.2 e)
        simp only [PP,P1,P2,P3,P4,P5,P6,P7,P8,P9,P10,P11,P12,P13,P14,L1,P15,N1,N2,N3,N4,N5,N6,N7,I1,I2,I3,I4,I5,I6,I7,reduceIte,reduceCtorEq,e,hw]
        exact SemW_to (ih (k + 1) (ver + 1) (by omega) (by omega)) (by simp only [PWeak_nil,PWeak_junk,PWeak_same,Int.cast_ofNat_Int,List.length_append,List.length_cons,List.length_nil,Nat.zero_add]) (by rw [h1])
  have hkn2 : k = ow.length := by omega
  have hXf : X = tabA ow.length (fulM ow su st ms) := by rw [hX]; exact tabA_congr fun v hv => if_pos (by omega)
  have Xat : ∀ v,v < ow.length → X.getD v 0 = fulM ow su st ms v := fun v hv => by
    have : X[v]? = some (fulM ow su st ms v) := by rw [hXf]; exact tabA_get hv
    exact getD_some this
  obtain ⟨_,_,hst⟩ := comE_ok e
  have XM : MvOk su ow.length X := ⟨hXl,fun v hv => by
    rw [Xat v hv]
    unfold fulM
    split
    · rename_i q; exact (hst v hv).resolve_left (by omega)
    · obtain ⟨row,u,gr,_,_,hur,eu,_,_⟩ := fulM_mem (ms := ms) (st := st) V (fun x hx => (hms x hx).1) hv
      rw [eu]
      have : su.getD v [] = row := by simp [List.getD,gr]
      rw [this]; exact hur⟩
  have hmin := R1.min hc XM (fun v hv ho1 => by
    rw [Xat v hv,comM_same hv ho1]
    unfold fulM
    rw [if_pos ((h01 v hv).resolve_right ho1)]) hatl
  have hplay := XM.play V hc hatl
  simp only [PP,P1,P2,P3,P4,P5,P6,P7,P8,P9,P10,P11,P12,P13,P14,L1,P15,N1,N2,N3,N4,N5,N6,N7,I1,I2,I3,I4,I5,I6,I7,reduceIte,reduceCtorEq,d2]
  refine SemC_borF (args3 := [.agg (gmF F0 ow pr su),slI false false .i64 X,p64 at']) (.same (by simp only [PP,P1,P2,P3,P4,P5,P6,P7,P8,P9,P10,P11,P12,P13,P14,L1,P15,N1,N2,N3,N4,N5,N6,N7,I1,I2,I3,I4,I5,I6,I7,reduceIte,reduceCtorEq]) (.ints rfl hXl (.same rfl .nil))) (by simp only [ageL,PV.age,ageL_ints,ageL_slI]) (play_p T B (by rw [hXl]; show _ < 1000000000000; omega) ⟨?_, ?_⟩)
  · unfold playM
    rw [if_pos hplay]
    simp only [young_tuple,youngL_cons,youngL_nil,young_slI,young_int,Bool.and_true]
  have hw := win_fol hc XM hatl
  unfold playM
  rw [if_pos hplay]
  simp only [PP,P1,P2,P3,P4,P5,P6,P7,P8,P9,P10,P11,P12,P13,P14,L1,P15,N1,N2,N3,N4,N5,N6,N7,I1,I2,I3,I4,I5,I6,I7,reduceIte,reduceCtorEq]
  obtain ⟨_,_,_,_,f,hf1,hf2,m,kk,hP⟩ := play_facts hplay
  have hlen := (hP.facts (fun v hv => (hf2 v hv).1) (by omega)).2.2.1
  rw [List.length_append] at hlen
  refine winner_p T B (by show _ < 1000000000000; omega) ?_
  rw [hw]
  have ok1 := val_ok hc R1.ok hatl
  have c0' := ok1.c0
  have cn := ok1.cn
  have g1 := valsM_get (ow := ow) (pr := pr) (su := su) (st := st1) (v := at') (by rw [R1.ok.l]; exact hatl)
  have gc : (vlsL (valsM ow pr su st1))[at' * 3]? = some (p64 (folA ow pr su st1 at').cy) := by
    have h3 := psub_vls g1
    unfold psub at h3
    have h4 : ((vlsL (valsM ow pr su st1)).drop (at' * 3)).take 3 = vlL false true (folA ow pr su st1 at') := h3
    have h5 := congrArg (fun l : List PV => l[0]?) h4
    simp only [List.getElem?_take,List.getElem?_drop] at h5
    simpa using h5
  have gp := prI_get (pr := pr) c0' (by omega)
  have a0 : (0 : Int) ≤ at' := by omega
  have al : (at' : Int) < ow.length := by omega
  have nc0 : ¬ (folA ow pr su st1 at').cy < 0 := by omega
  have ncn : ¬ (ow.length : Int) ≤ (folA ow pr su st1 at').cy := by omega
  have ncp : ¬ (pr.length : Int) ≤ (folA ow pr su st1 at').cy := by omega
  have clp : (folA ow pr su st1 at').cy < pr.length := by omega
  simp only [PP,P1,P2,P3,P4,P5,P6,P7,P8,P9,P10,P11,P12,P13,P14,L1,P15,N1,N2,N3,N4,N5,N6,N7,I1,I2,I3,I4,I5,I6,I7,reduceIte,reduceCtorEq,gc,a0,al,nc0,ncp,gp,c0',clp,prem (show (2 : Int) ≠ 0 by decide)]
  refine QIf.intro (fun q => ?_) (fun q => ?_)
  · simp only [PP,P1,P2,P3,P4,P5,P6,P7,P8,P9,P10,P11,P12,P13,P14,L1,P15,N1,N2,N3,N4,N5,N6,N7,I1,I2,I3,I4,I5,I6,I7,reduceIte,reduceCtorEq,q]
  · have := even_up hp hmin q
    simp only [PP,P1,P2,P3,P4,P5,P6,P7,P8,P9,P10,P11,P12,P13,P14,L1,P15,N1,N2,N3,N4,N5,N6,N7,I1,I2,I3,I4,I5,I6,I7,reduceIte,reduceCtorEq,q,this]
theorem imono_all (args : List AV) (h : H) (hs : ShVs [gameTy,.slice (.int .i64),.slice (.int .u8),.int .u8] args h) :
    ∃ n h',(run tab n).call 8 args h = some (.bool true,h') := by
  obtain ⟨a,b,c,d,rfl,ha,hb,hc,hd⟩ := shVs4 hs
  obtain ⟨ow,pr,su,r1,N⟩ := arg_game ha
  obtain ⟨st,r2,_⟩ := arg_ints hb
  obtain ⟨ms,r3,_,q3⟩ := arg_ints hc
  obtain ⟨fr,_,r4,q4⟩ := arg_int hd
  exact run_of_C (law_of_sem (.cons r1 (.cons r2 (.cons r3 (.cons r4 (.nil _))))) (imono_p T (F := ⟨false,false,false,false,false,false,false,false⟩) (fun x hx => (N.o x hx).1) q3 q4))
end
end Go.Am.Ar

