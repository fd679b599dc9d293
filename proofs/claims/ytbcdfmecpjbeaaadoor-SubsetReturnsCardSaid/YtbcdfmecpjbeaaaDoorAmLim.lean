/- The abstract machine without fuel: the limit of its runs. -/
import Derived.Test.YtbcdfmecpjbeaaaDoorAmBase
set_option linter.unusedVariables false
set_option linter.unusedSimpArgs false
namespace Go.Am
def Evt (p:Nat→Prop):Prop:=∃n,∀m,n≤m→p m
theorem Evt.mono {p q:Nat→Prop} (h:Evt p) (k:∀m,p m→q m):Evt q:=let ⟨n,hn⟩:=h;⟨n,fun m hm=>k m (hn m hm)⟩
theorem Evt.and {p q:Nat→Prop} (h:Evt p) (k:Evt q):Evt fun m=>p m∧q m:=let ⟨n,hn⟩:=h;let ⟨l,hl⟩:=k;⟨max n l,fun m hm=>⟨hn m (by omega),hl m (by omega)⟩⟩
theorem Evt.all {p:Nat→Prop} (h:∀m,p m):Evt p:=⟨0,fun m _=>h m⟩
structure Tends (R:Nat→Rec) (L:Rec):Prop where
 code:∀c a h x,L.code c a h=some x→Evt fun m=>(R m).code c a h=some x
 call:∀g args h x,L.call g args h=some x→Evt fun m=>(R m).call g args h=some x
section
variable {R:Nat→Rec} {L:Rec}
theorem acallV_evt (ok:Tends R L) {f:AV} {args:List AV} {h:H} {x:AV×H} (hx:acallV L f args h=some x):Evt fun m=>acallV (R m) f args h=some x:=by
 unfold acallV at hx
 split at hx
 ·exact(ok.call _ _ _ _ hx).mono fun m hm=>by simp only[acallV];exact hm
 ·rename_i l first cap
  split at hx
  ·rename_i ver r0 hg
   split at hx
   ·rename_i hl
    split at hx
    ·rename_i a1 h1 hasg
     have e1:=ok.code _ _ _ _ hasg
     split at hx
     ·rename_i v1 lr1 hg1
      split at hx
      ·rename_i hst
       split at hx
       ·rename_i e x3 h3 hbody
        have e2:=ok.code _ _ _ _ hbody
        refine(e1.and e2).mono fun m hm=>?_
        simp only[acallV,hg,if_pos hl,hm.1,hg1,if_pos hst,hm.2]
        exact hx
       ·cases hx
      ·cases hx
     ·cases hx
    ·cases hx
   ·cases hx
  ·cases hx
 ·cases hx
theorem astep_evt (ok:Tends R L) {o:AO} {a:List AV} {h:H} {x:AV×H×List Nat} (hx:astep L o a h=some x):Evt fun m=>astep (R m) o a h=some x:=by
 cases o with
 | call f args=>
  simp only[astep]at hx
  split at hx
  ·rename_i v h' hc
   refine(acallV_evt ok hc).mono fun m hm=>?_
   simp only[astep,hm];exact hx
  ·cases hx
 | _=>exact Evt.all fun m=>hx
theorem aops_evt (ok:Tends R L):∀{os:List AOper} {a:List AV} {h:H} {x:List AV×H},aops L os a h=some x→Evt fun m=>aops (R m) os a h=some x
 | [],a,h,x,hx=>Evt.all fun m=>hx
 | o::os,a,h,x,hx=>by
  unfold aops at hx
  split at hx
  ·rename_i hw
   split at hx
   ·rename_i v h1 rd hs
    refine((astep_evt ok hs).and (aops_evt ok hx)).mono fun m hm=>?_
    unfold aops
    simp only[hw,hm.1];exact hm.2
   ·cases hx
  ·rename_i hw
   refine(aops_evt ok hx).mono fun m hm=>?_
   unfold aops
   simp only[hw];exact hm
  ·cases hx
theorem aopsD_evt (ok:Tends R L):∀{os:List AOper} {i:Nat} {a:List AV} {h:H} {log:List LogE} {x:List AV×H},aopsD L os i a h log=some x→Evt fun m=>aopsD (R m) os i a h log=some x
 | [],i,a,h,log,x,hx=>Evt.all fun m=>hx
 | o::os,i,a,h,log,x,hx=>by
  unfold aopsD at hx
  split at hx
  ·rename_i hw
   split at hx
   ·rename_i v h1 rd hs
    split at hx
    ·rename_i hc
     refine((astep_evt ok hs).and (aopsD_evt ok hx)).mono fun m hm=>?_
     unfold aopsD
     simp only[hw,hm.1,if_pos hc];exact hm.2
    ·cases hx
   ·cases hx
  ·rename_i hw
   refine(aopsD_evt ok hx).mono fun m hm=>?_
   unfold aopsD
   simp only[hw];exact hm
  ·cases hx
theorem acode_evt (ok:Tends R L):∀{c:AC} {a:List AV} {h:H} {x:Ex×List AV×H},q8 L c a h=some x→Evt fun m=>q8 (R m) c a h=some x
 | .skip,a,h,x,hx=>Evt.all fun m=>hx
 | .ret,a,h,x,hx=>Evt.all fun m=>hx
 | .exit id,a,h,x,hx=>Evt.all fun m=>hx
 | .region ops,a,h,x,hx=>by
  simp only[q8]at hx
  split at hx
  ·rename_i a1 h1 ho
   exact(aops_evt ok ho).mono fun m hm=>by simp only[q8,hm];exact hx
  ·cases hx
 | .regionD ops,a,h,x,hx=>by
  simp only[q8]at hx
  split at hx
  ·rename_i a1 h1 ho
   exact(aopsD_evt ok ho).mono fun m hm=>by simp only[q8,hm];exact hx
  ·cases hx
 | .seq c d,a,h,x,hx=>by
  simp only[q8]at hx
  split at hx
  ·rename_i a1 h1 hc
   exact((acode_evt ok hc).and (acode_evt ok hx)).mono fun m hm=>by simp only[q8,hm.1];exact hm.2
  ·rename_i hne
   refine(acode_evt ok hx).mono fun m hm=>?_
   obtain⟨e,a1,h1⟩:=x
   simp only[q8,hm]
   cases e with
   | normal=>exact absurd hx (hne _ _)
   | _=>rfl
 | .cond c y z,a,h,x,hx=>by
  simp only[q8]at hx
  split at hx
  ·rename_i hc;exact(acode_evt ok hx).mono fun m hm=>by simp only[q8,hc];exact hm
  ·rename_i hc;exact(acode_evt ok hx).mono fun m hm=>by simp only[q8,hc];exact hm
  ·cases hx
 | .block id y,a,h,x,hx=>by
  simp only[q8]at hx
  split at hx
  ·rename_i i a1 h1 hc
   exact(acode_evt ok hc).mono fun m hm=>by simp only[q8,hm];exact hx
  ·rename_i hne
   refine(acode_evt ok hx).mono fun m hm=>?_
   obtain⟨e,a1,h1⟩:=x
   simp only[q8,hm]
   cases e with
   | exit i=>exact absurd hx (hne _ _ _)
   | _=>rfl
 | .loop sc y,a,h,x,hx=>by
  simp only[q8]at hx
  split at hx
  ·rename_i a1 h1 hc
   exact((acode_evt ok hc).and (ok.code _ _ _ _ hx)).mono fun m hm=>by simp only[q8,hm.1];exact hm.2
  ·rename_i hne
   refine(acode_evt ok hx).mono fun m hm=>?_
   obtain⟨e,a1,h1⟩:=x
   simp only[q8,hm]
   cases e with
   | normal=>exact absurd hx (hne _ _)
   | _=>rfl
 | .rangeFunc f ps asg body,a,h,x,hx=>by
  simp only[q8]at hx
  split at hx
  ·rename_i g first cap he
   split at hx
   ·rename_i v h1 hc
    split at hx
    ·rename_i ver r hg
     refine(ok.call _ _ _ _ hc).mono fun m hm=>?_
     simp only[q8,he,hm,hg]
     exact hx
    ·cases hx
   ·cases hx
  ·cases hx
theorem acallF_evt (ok:Tends R L) {tab:FuncId→Option AF} {g:FuncId} {args:List AV} {h:H} {x:AV×H} (hx:acallF L tab g args h=some x):Evt fun m=>acallF (R m) tab g args h=some x:=by
 unfold acallF at hx
 split at hx
 ·rename_i f hf
  exact Evt.all fun m=>by simp only[acallF,hf];exact hx
 ·rename_i F hF
  split at hx
  ·rename_i a1 h1 hc
   refine(acode_evt ok hc).mono fun m hm=>?_
   simp only[acallF,hF,hm];exact hx
  ·rename_i a1 h1 hc
   refine(acode_evt ok hc).mono fun m hm=>?_
   simp only[acallF,hF,hm];exact hx
  ·cases hx
 ·cases hx
end
theorem run_step (tab:FuncId→Option AF):∀n,Tends (fun _=>run tab (n+1)) (run tab n)
 | 0=>⟨fun _ _ _ _ h=>by(cases h),fun _ _ _ _ h=>by(cases h)⟩
 | n+1=>⟨fun c a h x hx=>Evt.all fun _=>by
   obtain⟨k,hk⟩:=acode_evt (run_step tab n) (show q8 (run tab n) c a h=some x from hx)
   exact hk k (Nat.le_refl _),fun g args h x hx=>Evt.all fun _=>by
   obtain⟨k,hk⟩:=acallF_evt (run_step tab n) (show acallF (run tab n) tab g args h=some x from hx)
   exact hk k (Nat.le_refl _)⟩
theorem run_mono_code (tab:FuncId→Option AF) {n m:Nat} (h:n≤m) {c:AC} {a:List AV} {w:H} {x:Ex×List AV×H} (hx:(run tab n).code c a w=some x):(run tab m).code c a w=some x:=by
 induction h with
 | refl=>exact hx
 | step _ ih=>
  obtain⟨k,hk⟩:=(run_step tab _).code _ _ _ _ ih
  exact hk k (Nat.le_refl _)
theorem run_mono_call (tab:FuncId→Option AF) {n m:Nat} (h:n≤m) {g:FuncId} {a:List AV} {w:H} {x:AV×H} (hx:(run tab n).call g a w=some x):(run tab m).call g a w=some x:=by
 induction h with
 | refl=>exact hx
 | step _ ih=>
  obtain⟨k,hk⟩:=(run_step tab _).call _ _ _ _ ih
  exact hk k (Nat.le_refl _)
open Classical in
noncomputable def lim (tab:FuncId→Option AF):Rec where
 code c a h:=if hx:∃x n,(run tab n).code c a h=some x then some hx.choose else none
 call g args h:=if hx:∃x n,(run tab n).call g args h=some x then some hx.choose else none
section
variable (tab:FuncId→Option AF)
theorem lim_code_iff {c:AC} {a:List AV} {h:H} {x:Ex×List AV×H} :(lim tab).code c a h=some x↔∃n,(run tab n).code c a h=some x:=by
 constructor
 ·intro hx
  unfold lim at hx
  simp only at hx
  split at hx
  ·rename_i hy
   cases hx
   exact hy.choose_spec
  ·cases hx
 ·rintro⟨n,hn⟩
  unfold lim
  simp only
  have hy:∃x n,(run tab n).code c a h=some x:=⟨x,n,hn⟩
  rw[dif_pos hy]
  obtain⟨m,hm⟩:=hy.choose_spec
  have h1:=run_mono_code tab (Nat.le_max_left n m) hn
  have h2:=run_mono_code tab (Nat.le_max_right n m) hm
  rw[h1]at h2;exact h2.symm
theorem lim_call_iff {g:FuncId} {a:List AV} {h:H} {x:AV×H} :(lim tab).call g a h=some x↔∃n,(run tab n).call g a h=some x:=by
 constructor
 ·intro hx
  unfold lim at hx
  simp only at hx
  split at hx
  ·rename_i hy
   cases hx
   exact hy.choose_spec
  ·cases hx
 ·rintro⟨n,hn⟩
  unfold lim
  simp only
  have hy:∃x n,(run tab n).call g a h=some x:=⟨x,n,hn⟩
  rw[dif_pos hy]
  obtain⟨m,hm⟩:=hy.choose_spec
  have h1:=run_mono_call tab (Nat.le_max_left n m) hn
  have h2:=run_mono_call tab (Nat.le_max_right n m) hm
  rw[h1]at h2;exact h2.symm
theorem tends_lim:Tends (run tab) (lim tab) where
 code c a h x hx:=let ⟨n,hn⟩:=(lim_code_iff tab).1 hx;⟨n,fun m hm=>run_mono_code tab hm hn⟩
 call g a h x hx:=let ⟨n,hn⟩:=(lim_call_iff tab).1 hx;⟨n,fun m hm=>run_mono_call tab hm hn⟩
theorem tends_run (n:Nat):Tends (fun _=>lim tab) (run tab n) where
 code c a h x hx:=Evt.all fun _=>(lim_code_iff tab).2 ⟨n,hx⟩
 call g a h x hx:=Evt.all fun _=>(lim_call_iff tab).2 ⟨n,hx⟩
theorem lim_code (c:AC) (a:List AV) (h:H):(lim tab).code c a h=q8 (lim tab) c a h:=by
 apply Option.ext
 intro x
 constructor
 ·intro hx
  obtain⟨n,hn⟩:=(lim_code_iff tab).1 hx
  cases n with
  | zero=>cases hn
  | succ n=>
   obtain⟨k,hk⟩:=acode_evt (tends_run tab n) (show q8 (run tab n) c a h=some x from hn)
   exact hk k (Nat.le_refl _)
 ·intro hx
  obtain⟨n,hn⟩:=acode_evt (tends_lim tab) hx
  exact(lim_code_iff tab).2 ⟨n+1,hn n (Nat.le_refl _)⟩
theorem lim_call (g:FuncId) (a:List AV) (h:H):(lim tab).call g a h=acallF (lim tab) tab g a h:=by
 apply Option.ext
 intro x
 constructor
 ·intro hx
  obtain⟨n,hn⟩:=(lim_call_iff tab).1 hx
  cases n with
  | zero=>cases hn
  | succ n=>
   obtain⟨k,hk⟩:=acallF_evt (tends_run tab n) (show acallF (run tab n) tab g a h=some x from hn)
   exact hk k (Nat.le_refl _)
 ·intro hx
  obtain⟨n,hn⟩:=acallF_evt (tends_lim tab) hx
  exact(lim_call_iff tab).2 ⟨n+1,hn n (Nat.le_refl _)⟩
end
end Go.Am

