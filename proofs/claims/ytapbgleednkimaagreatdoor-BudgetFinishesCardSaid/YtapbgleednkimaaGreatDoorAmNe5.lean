/- The operations that change no object that was there, one by one: the third part, and what goes with it. -/
import Derived.Test.YtapbgleednkimaaGreatDoorAmNe3
set_option linter.unusedVariables false
set_option linter.unusedSimpArgs false
namespace Go.Am
section
variable {P:Program} {ρ:Emb} {w:World} {a:List AV} {act:Act} {h h':H} {o:Oper} {ao:AO} {v:AV} {rd:List Nat}
theorem VR.slice_inv{fl:Bool}{sz b i n:Nat}{u:Value}(h:VR ρ (.slice fl sz b i n) u):∃ad cap,u= .slice (some ad) n cap/\n<=cap/\cap<=maxLen/\(fl=true->cap=n)/\(0<cap->∃l,ρ b=some l/\ad=⟨l.blk,l.base+i,none⟩/\l.base+i+cap*sz<=l.lim):=by
 cases h with
 | slice _ _ _ _ _ cap ad h1 h2 h3 h4=>exact⟨ad,cap,rfl,h1,h2,h3,h4⟩
theorem BR{f:Value->ByteArray->Sem (ForInStep ByteArray)}(hf:∀(n:Int) (s:ByteArray),f (.int .u8 n) s=pure (ForInStep.yield (s.push (UInt8.ofNat n.toNat)))):∀{cs:List AV} {us:List Value} {bs:List UInt8} (acc:ByteArray),VRs ρ cs us->eC cs=some bs->
  (forIn us acc f).run P w= .ok ⟨(acc.data.toList++bs).toArray⟩ w
 | [],us,bs,acc,h,hb=>by rw[h.nil_inv];cases hb;simp
 | v::cs,us,bs,acc,h,hb=>by
  obtain⟨u,us',rfl,hv,hr⟩:=h.cons_inv;unfold eC at hb;split at hb
  ·rename_i h0;cases h0
  ·rename_i n r h0;cases h0;split at hb
   ·rename_i t ht;split at hb
    ·cases hb;rw[hv.int_inv];simp only[List.forIn_cons,hf,Sem.run_bind,Sem.run_pure,Result.andThen_ok];rw[BR hf (acc.push (UInt8.ofNat n.toNat)) hr ht];congr 2;simp[ByteArray.push]
    ·cases hb
   ·cases hb
  ·cases hb
theorem L3{s d:TypeId}{x:Operand}(ho:o.op= .convert s d x)(htr:aS P o=some ao)(hne:ao.effect=false)(hrun:aop a h ao=some (v,h',rd))(ht:Ops ρ a act ao.uses)(hobj:KA P ρ h w rd):
  NE P ρ h w ((execOp act.eval o).run P w) v h':=by
 simp only[aS,ho]at htr;split at htr
 ·rename_i k k' x' hs hd hx;cases htr;have hxv:=aN hx ht;simp only[aop]at hrun;split at hrun
  ·rename_i j n hn;cases hrun;rw[hn]at hxv;exact NE.val (u:= .int _ _) (by simp[execOp,ho,hxv.int_inv,convert,run_underlying hs,run_underlying hd,Conv.intToInt]) (.int _ _)
  ·cases hrun
 ·rename_i x' hs hd hx;cases htr;have hxv:=aN hx ht;simp only[aop]at hrun;split at hrun
  ·rename_i s' hs';cases hrun;rw[hs']at hxv;exact NE.val (u:= .string _) (by simp[execOp,ho,hxv.str_inv,convert,run_underlying hs,run_underlying hd]) (.str _)
  ·cases hrun
 ·rename_i e x' hs hd hx;split at htr
  ·rename_i he;cases htr;have hxv:=aN hx ht;simp only[aop]at hrun;split at hrun
   ·rename_i hev;cases hrun;rw[hev]at hxv;have hxe:act.eval x= .slice none 0 0:=by generalize act.eval x=u at hxv;cases hxv;rfl
    exact NE.val (u:= .string _) (by simp[execOp,ho,hxe,convert,run_underlying hs,run_underlying hd,run_underlying he,Conv.bytesToString]) (.str _)
   ·rename_i fl sz b i n hev;split at hrun
    ·rename_i cs hcs;split at hrun
     ·rename_i bs hbs;simp only[Option.some.injEq,Prod.mk.injEq]at hrun;obtain⟨rfl,rfl,rfl⟩:=hrun;rw[hev]at hxv;obtain⟨ad,cap,hxe,g1,g2,g3,g4⟩:=hxv.slice_inv;refine NE.val (u:= .string ⟨bs.toArray⟩) ?_ (.str _);have hld:∃us:List Value,(loadCells ad n).run P w= .ok us.toArray w/\VRs ρ cs us:=by
       by_cases h0:n=0
       ·subst h0;have:cs=[]:=by obtain⟨ver,rw_,all,hg,hn,e⟩:=cJ hcs;subst e;simp
        subst this;exact⟨[],rfl,.nil ρ⟩
       ·obtain⟨l,hl,rfl,_⟩:=g4 (by omega);obtain⟨ver,rw_,all,hg,hn,e⟩:=cJ hcs;obtain⟨us,h1,h2,h3⟩:=(hobj b (by simp) l _ hl hg).cells hn e;exact⟨us,l7 h2 (fun j u hj=>by rw[Addr.add_mk];exact h3 j u hj),h1⟩
      obtain⟨us,hl1,hl2⟩:=hld;have hrb:=fun f hf=>BR (P:=P) (w:=w) (f:=f) hf ByteArray.empty hl2 hbs;have e0:ByteArray.empty.data.toList=[]:=rfl;simp only[e0,List.nil_append]at hrb;simp only[execOp,ho,hxe,convert,Sem.run_bind,run_underlying hs,run_underlying hd,run_underlying he,Result.andThen_ok,Conv.bytesToString,hl1];rw[List.forIn_toArray,hrb _ (fun n s=>rfl)];simp only[Result.andThen_ok,Sem.run_pure]
     ·cases hrun
    ·cases hrun
   ·cases hrun
  ·cases htr
 ·split at htr
  ·cases htr;simp[AO.effect]at hne
  ·cases htr
 ·cases htr
theorem EC{t:TypeId}{n c:Operand}(ho:o.op= .makeSlice t n c)(htr:aS P o=some ao)(hrun:aop a h ao=some (v,h',rd))(ht:Ops ρ a act ao.uses):
  NE P ρ h w ((execOp act.eval o).run P w) v h':=by
 simp only[aS,ho]at htr;split at htr
 ·rename_i e hu;split at htr
  ·rename_i i z l c' hi hz hl hc;split at htr
   ·rename_i hcond;simp only[Bool.and_eq_true,decide_eq_true_eq]at hcond;cases htr;simp only[AO.uses]at ht;have h1:=aN hl ht.left;have h2:=aN hc ht.right;simp only[aop]at hrun;split at hrun
    ·rename_i m k e1 e2;rw[e1]at h1;rw[e2]at h2;split at hrun
     ·rename_i hb;obtain⟨b1,b2,b3,b4⟩:=hb;cases hrun;obtain⟨u,i',hi',hzero,hrz,hop⟩:=fZ hz;rw[hi]at hi';cases hi';have hlu:=dO hop;have hlu':u.cells.size=z.length:=by simpa using hlu.symm
      have hml:k<=9223372036854775807:=by unfold eK at b4;omega
      have hrun:=run_make (P:=P) w t e i u hu hi hzero .i64 .i64 m k b1 b2 (by rw[Int.mul_comm];omega) hml;refine NE.new (u:= .slice (some ⟨w.heap.size,0,none⟩) m.toNat k.toNat) (ob:= .cells (madeCells u.cells (k.toNat*i.size)) e)
       (l:=⟨w.heap.size,0,(madeCells u.cells (k.toNat*i.size)).size⟩) rfl ?_ fun hfr=>⟨?_,?_⟩
      ·simp[execOp,ho,h1.int_inv,h2.int_inv,hrun]
      ·refine .slice _ z.length h.next 0 m.toNat k.toNat _ (by omega) (by unfold maxLen;omega) (fun he=>?_) (fun hp=>⟨_,aV _ _ _,rfl,?_⟩)
       ·simp at he;omega
       ·simp[madeCells,hcond.1]
      ·have hrow:∀ρ',VRs ρ' (fE k.toNat z) (madeCells u.cells (k.toNat*i.size)).toList:=fun ρ'=>by have:=mO (n:=k.toNat) (d7 (ρ:=ρ') hop).1 (by omega);simp only[Array.toArray_toList,Array.length_toList]at this;unfold madeCells;rw[hcond.1,<-hlu'];exact this
       have hle:fE k.toNat z=fE m.toNat z++fE (k.toNat-m.toNat) z:=by
        have:∀p q:Nat,fE (p+q) z=fE p z++fE q z:=by
         intro p q
         induction p with
         | zero=>simp[fE]
         | succ p ih=>rw[Nat.succ_add];simp[fE,ih]
        rw[<-this];congr 1;omega
       refine OR.newRow rfl rfl rfl ?_ (fun j y hy=>?_)
       ·have:=(hrow ρ).1;rw[hle]at this;simp only[List.length_append,Array.length_toList]at this;omega
       ·obtain⟨z',hz',hr⟩:=(hrow _).getElem (i:=j) (v:=y) (by rw[hle,List.getElem?_append_left (List.getElem?_eq_some_iff.1 hy).1];exact hy);exact⟨z',by simpa using hz',hr⟩
     ·cases hrun
    ·cases hrun
   ·cases htr
  ·cases htr
 ·cases htr
def vi(p:IntKind×Int):Value:= .int p.1 p.2
theorem l8{isS:Bool}{len cap:Nat}{l r m:Option (IntKind×Int)}(hmr:m.isSome=true->r.isSome=true)(h0:0<=(l.map Prod.snd).getD (0:Int))(h1:(l.map Prod.snd).getD (0:Int)<=(r.map Prod.snd).getD (len:Int))
  (h2:(r.map Prod.snd).getD (len:Int)<=(m.map Prod.snd).getD (cap:Int)) (h3:(m.map Prod.snd).getD (cap:Int)<=cap):
  (Instr.sliceBounds isS len cap (l.map vi) (r.map vi) (m.map vi)).run P w= .ok (((l.map Prod.snd).getD (0:Int)).toNat,((r.map Prod.snd).getD (len:Int)).toNat,((m.map Prod.snd).getD (cap:Int)).toNat) w:=by
 have e:∀x:Int,0<=x->((x.toNat:Nat):Int)=x:=fun x hx=>Int.toNat_of_nonneg hx
 cases l with
 | none=>
  cases r with
  | none=>
   cases m with
   | none=>simp[Instr.sliceBounds]
   | some m=>simp at hmr
  | some r=>
   obtain⟨kr,r⟩:=r;simp at h0 h1 h2 h3
   cases m with
   | none=>simp at h2 h3;simp[Instr.sliceBounds,vi,run_sliceBound w kr r cap _ h1 h2]
   | some m=>obtain⟨km,m⟩:=m;simp at h2 h3;simp[Instr.sliceBounds,vi,run_sliceBound w km m cap _ (by omega) h3,run_sliceBound w kr r m.toNat _ h1 (by rw[e m (by omega)];exact h2)]
 | some l=>
  obtain⟨kl,l⟩:=l;simp at h0 h1
  cases r with
  | none=>
   cases m with
   | none=>simp at h1;simp[Instr.sliceBounds,vi,run_sliceBound w kl l len _ h0 h1]
   | some m=>simp at hmr
  | some r=>
   obtain⟨kr,r⟩:=r;simp at h1 h2 h3
   cases m with
   | none=>simp at h2 h3;simp[Instr.sliceBounds,vi,run_sliceBound w kr r cap _ (by omega) h2,run_sliceBound w kl l r.toNat _ h0 (by rw[e r (by omega)];exact h1)]
   | some m=>obtain⟨km,m⟩:=m;simp at h2 h3;simp[Instr.sliceBounds,vi,run_sliceBound w km m cap _ (by omega) h3,run_sliceBound w kr r m.toNat _ (by omega) (by rw[e m (by omega)];exact h2),run_sliceBound w kl l r.toNat _ h0 (by rw[e r (by omega)];exact h1)]
theorem p9{x:Option Operand}{y:Option AR}{n:Option Int}(hx:zR x=some y)(ht:Ops ρ a act (HQ y))(hb:bnd a y=some n):
  ∃p:Option (IntKind×Int),x.map act.eval=p.map vi/\n=p.map Prod.snd:=by
 cases x with
 | none=>simp[zR]at hx;subst hx;simp[bnd]at hb;subst hb;exact⟨none,rfl,rfl⟩
 | some x=>
  simp only[zR,Option.map_eq_some_iff]at hx;obtain⟨r,hr,rfl⟩:=hx;have hv:=aN hr ht;unfold bnd at hb;split at hb
  ·rename_i h;cases h
  ·rename_i r' h;cases h;split at hb
   ·rename_i k m he;cases hb;rw[he]at hv;exact⟨some (k,m),by simp[vi,hv.int_inv],rfl⟩
   ·cases hb
theorem rC{t e:TypeId}{s len cap:Nat}{base:Option Addr}{lo hi mx:Option Value}{l r m:Nat}(hu:P.underlying t=some (.slice e))(hs:dY P e=some s)
  (hb:(Instr.sliceBounds true len cap lo hi mx).run P w= .ok (l,r,m) w):(Instr.sliceAt t (.slice base len cap) lo hi mx).run P w= .ok (.slice (if m=l then base else base.map (·.add (l*s))) (r-l) (m-l)) w:=by
 simp[Instr.sliceAt,run_underlying hu,Instr.slice,hb,cL hs]
theorem VR.sliced{fl fl':Bool}{sz b i n l r cap' m:Nat}{ad:Addr}(h1:n<=cap')(h2:cap'<=maxLen)(h3:fl=true->cap'=n)
  (h4:0<cap'->∃lc,ρ b=some lc/\ad=⟨lc.blk,lc.base+i,none⟩/\lc.base+i+cap'*sz<=lc.lim) (hl:l<=r) (hr:r<=m) (hm:m<=cap') (hf:fl'=true->m=r):
  VR ρ (.slice fl' sz b (i+l*sz) (r-l)) (.slice (if m=l then some ad else(some ad).map (·.add (l*sz))) (r-l) (m-l)):=by
 by_cases e:m=l
 ·rw[if_pos e];exact .slice fl' sz b _ _ _ ad (by omega) (by omega) (fun hf'=>by have:=hf hf';omega) (fun hp=>by omega)
 ·rw[if_neg e];refine .slice fl' sz b _ _ _ _ (by omega) (by omega) (fun hf'=>by have:=hf hf';omega) (fun hp=>?_);obtain⟨lc,g1,g2,g3⟩:=h4 (by omega);refine⟨lc,g1,by rw[g2];show(⟨lc.blk,lc.base+i,none⟩:Addr).add (l*sz)=_;rw[Addr.add_mk,Nat.add_assoc],?_⟩;have:l*sz+(m-l)*sz<=cap'*sz:=by rw[<-Nat.add_mul];exact Nat.mul_le_mul_right _ (by omega)
  omega
theorem DV{t:TypeId}{s:ByteArray}{lo hi:Option Value}{l r m:Nat}(hu:P.underlying t=some .string)(hb:(Instr.sliceBounds false s.size s.size lo hi none).run P w= .ok (l,r,m) w):
  (Instr.sliceAt t (.string s) lo hi none).run P w= .ok (.string (s.extract l r)) w:=by
 simp[Instr.sliceAt,run_underlying hu,Instr.slice,hb]
theorem DW{t e:TypeId}{s n:Nat}{ad:Addr}{lo hi:Option Value}{l r m:Nat}(hu:P.underlying t=some (.array n e))(hs:dY P e=some s)
  (hb:(Instr.sliceBounds false n n lo hi none).run P w= .ok (l,r,m) w):(Instr.sliceAt t (.pointer (some ad)) lo hi none).run P w= .ok (.slice (some (if m=l then ad else ad.add (l*s))) (r-l) (m-l)) w:=by
 simp[Instr.sliceAt,run_underlying hu,Instr.sureAddr,hb,cL hs]
theorem YN{t:TypeId}{x:Operand}{lo hi mx:Option Operand}(ho:o.op= .slice t x lo hi mx)(htr:aS P o=some ao)(hrun:aop a h ao=some (v,h',rd))(ht:Ops ρ a act ao.uses)(hobj:KA P ρ h w rd):
  NE P ρ h w ((execOp act.eval o).run P w) v h':=by
 simp only[aS,ho]at htr;split at htr
 ·rename_i e hu;split at htr
  ·rename_i s x' lo' hi' mx' hs hx hlo hhi hmx;cases htr;simp only[AO.uses]at ht;have hxv:=aN hx ht.left.left.left;simp only[aop]at hrun;split at hrun
   ·rename_i L R M hbl hbr hbm;obtain⟨pl,el,rfl⟩:=p9 hlo ht.left.left.right hbl;obtain⟨pr,er,rfl⟩:=p9 hhi ht.left.right hbr;obtain⟨pm,em,rfl⟩:=p9 hmx ht.right hbm;split at hrun
    ·rename_i r hr;cases hrun;unfold eH at hr;split at hr
     ·cases hr
     ·rename_i hmr;have hmr':pm.isSome=true->pr.isSome=true:=by cases pm<;>cases pr<;>simp_all
      split at hr
      ·rename_i hev;rw[hev]at hxv;have hxe:act.eval x= .slice none 0 0:=by generalize act.eval x=u at hxv;cases hxv;rfl
       split at hr
       ·rename_i hc;cases hr;simp only[Bool.and_eq_true,beq_iff_eq]at hc;obtain⟨⟨c1,c2⟩,c3⟩:=hc;have hb:=l8 (P:=P) (w:=w) (isS:=true) (len:=0) (cap:=0) hmr' (by rw[c1];omega) (by rw[c1];simp[c2]) (by simp[c2,c3]) (by simp[c3]);simp only[c1,Int.ofNat_zero,Int.natCast_zero,c2,c3,Int.toNat_zero]at hb;refine NE.val (u:= .slice none 0 0) ?_ .nilslice;simp[execOp,ho,hxe,el,er,em,rC hu hs hb]
       ·cases hr
      ·rename_i fl sz b i n hev;rw[hev]at hxv;obtain⟨ad,cap,hxe,g1,g2,g3,g4⟩:=hxv.slice_inv;split at hr
       ·rename_i hc;cases hr;obtain⟨rfl,c1,c2,c3,c4⟩:=hc;have fin:∀(m:Nat),(m:Int)=(pm.map Prod.snd).getD (cap:Int)->((pr.map Prod.snd).getD (n:Int)).toNat<=m->m<=cap->
          ((if(pm.map Prod.snd).isSome then(pm.map Prod.snd).getD ((pr.map Prod.snd).getD (n:Int))==(pr.map Prod.snd).getD (n:Int)else fl&&(pr.map Prod.snd).getD (n:Int)==(n:Int))=true->m=((pr.map Prod.snd).getD (n:Int)).toNat)->
          NE P ρ h w ((execOp act.eval o).run P w) (.slice (if(pm.map Prod.snd).isSome then(pm.map Prod.snd).getD ((pr.map Prod.snd).getD (n:Int))==(pr.map Prod.snd).getD (n:Int)else fl&&(pr.map Prod.snd).getD (n:Int)==(n:Int)) sz b (i+((pl.map Prod.snd).getD (0:Int)).toNat*sz) ((pr.map Prod.snd).getD (n:Int)-(pl.map Prod.snd).getD (0:Int)).toNat) h:=by
         intro m hm1 hm2 hm3 hm4;have hb:=l8 (P:=P) (w:=w) (isS:=true) (len:=n) (cap:=cap) (l:=pl) (r:=pr) (m:=pm) hmr' c1 c2 (by rw[<-hm1];omega) (by rw[<-hm1];omega);rw[<-hm1,Int.toNat_natCast]at hb;have hvr:=VR.sliced (ρ:=ρ) (l:=((pl.map Prod.snd).getD (0:Int)).toNat) (r:=((pr.map Prod.snd).getD (n:Int)).toNat) (m:=m) g1 g2 g3 g4 (by omega) hm2 hm3 hm4;rw[show((pr.map Prod.snd).getD (n:Int)).toNat-((pl.map Prod.snd).getD (0:Int)).toNat=((pr.map Prod.snd).getD (n:Int)-(pl.map Prod.snd).getD (0:Int)).toNat from by omega]at hvr;refine NE.val ?_ hvr;simp only[execOp,ho,hxe,el,er,em,Sem.run_bind,rC hu hs hb,Result.andThen_ok,Sem.run_pure];rw[show((pr.map Prod.snd).getD (n:Int)).toNat-((pl.map Prod.snd).getD (0:Int)).toNat=((pr.map Prod.snd).getD (n:Int)-(pl.map Prod.snd).getD (0:Int)).toNat from by omega]
        cases pm with
        | none=>simp only[Option.map_none,Option.getD_none]at c3 c4;refine fin cap rfl (by omega) (Nat.le_refl _) (fun hh=>?_);simp at hh;have:=g3 hh.1;omega
        | some pm=>obtain⟨kp,pm⟩:=pm;simp only[Option.map_some,Option.getD_some]at c3 c4;refine fin pm.toNat (by simp;omega) (by omega) (by omega) (fun hh=>?_);simp at hh;omega
       ·cases hr
      ·cases hr
    ·cases hrun
   ·cases hrun
  ·cases htr
 ·rename_i hu;split at htr
  ·rename_i x' lo' hi' hx hlo hhi;cases htr;simp only[AO.uses]at ht;have hxv:=aN hx ht.left.left;simp only[aop]at hrun;split at hrun
   ·rename_i s L R hev hbl hbr;obtain⟨pl,el,rfl⟩:=p9 hlo ht.left.right hbl;obtain⟨pr,er,rfl⟩:=p9 hhi ht.right hbr;rw[hev]at hxv;split at hrun
    ·rename_i hc;cases hrun;obtain⟨c1,c2,c3⟩:=hc;have hb:=l8 (P:=P) (w:=w) (isS:=false) (len:=s.size) (cap:=s.size) (l:=pl) (r:=pr) (m:=none) (by simp) c1 c2 (by simpa using c3) (by simp);refine NE.val ?_ (.str _);simp only[Option.map_none]at hb;simp only[execOp,ho,hxv.str_inv,el,er,Option.map_none,Sem.run_bind,DV hu hb,Result.andThen_ok,Sem.run_pure]
    ·cases hrun
   ·cases hrun
  ·cases htr
 ·rename_i n e hu;split at htr
  ·rename_i s x' lo' hi' hs hx hlo hhi;split at htr
   ·rename_i hn;cases htr;simp only[AO.uses]at ht;have hxv:=aN hx ht.left.left;simp only[aop]at hrun;split at hrun
    ·rename_i b i hev;rw[hev]at hxv;obtain⟨lc,hlc,hxe⟩:=hxv.ptr_inv;split at hrun
     ·rename_i L R ver rw_ cs hbl hbr hg;obtain⟨pl,el,rfl⟩:=p9 hlo ht.left.right hbl;obtain⟨pr,er,rfl⟩:=p9 hhi ht.right hbr;split at hrun
      ·rename_i hlen;split at hrun
       ·rename_i r hr;cases hrun;unfold eH at hr;simp only[Option.isSome_none,Bool.false_and,Bool.false_eq_true,if_false,Option.getD_none]at hr;split at hr
        ·rename_i hc;cases hr;obtain⟨-,c1,c2,c3,c4⟩:=hc;obtain⟨cc,fz,et,g1,g2,g3,_⟩:=hobj b (by simp) lc _ hlc hg;have hb:=l8 (P:=P) (w:=w) (isS:=false) (len:=n) (cap:=n) (l:=pl) (r:=pr) (m:=none) (by simp) c1 c2 (by simpa using c4) (by simp);simp only[Option.map_none,Option.getD_none,Int.toNat_natCast]at hb;have hvr:=VR.sliced (ρ:=ρ) (fl:=true) (fl':=(pr.map Prod.snd).getD (n:Int)==(n:Int)) (sz:=s) (b:=b) (i:=i) (n:=n) (cap':=n) (l:=((pl.map Prod.snd).getD (0:Int)).toNat) (r:=((pr.map Prod.snd).getD (n:Int)).toNat) (m:=n) (Nat.le_refl _) (by unfold maxLen;omega) (fun _=>rfl) (ad:=⟨lc.blk,lc.base+i,none⟩) (fun _=>⟨lc,hlc,rfl,by omega⟩) (by omega) (by omega) (Nat.le_refl _) (fun hh=>by simp at hh;omega);rw[show((pr.map Prod.snd).getD (n:Int)).toNat-((pl.map Prod.snd).getD (0:Int)).toNat=((pr.map Prod.snd).getD (n:Int)-(pl.map Prod.snd).getD (0:Int)).toNat from by omega]at hvr;refine NE.val ?_ (by simpa using hvr);simp only[execOp,ho,hxe,el,er,Option.map_none,Sem.run_bind,DW hu hs hb,Result.andThen_ok,Sem.run_pure];rw[show((pr.map Prod.snd).getD (n:Int)).toNat-((pl.map Prod.snd).getD (0:Int)).toNat=((pr.map Prod.snd).getD (n:Int)-(pl.map Prod.snd).getD (0:Int)).toNat from by omega];by_cases e:n=((pl.map Prod.snd).getD (0:Int)).toNat
         ·rw[if_pos e,if_pos e]
         ·rw[if_neg e,if_neg e]
        ·cases hr
       ·cases hrun
      ·cases hrun
     ·cases hrun
    ·cases hrun
   ·cases htr
  ·cases htr
 ·cases htr
theorem EE{t:TypeId}{x:Operand}{i:Nat}(ho:o.op= .fieldAddr t x i)(htr:aS P o=some ao)(hrun:aop a h ao=some (v,h',rd))(ht:Ops ρ a act ao.uses):
  NE P ρ h w ((execOp act.eval o).run P w) v h':=by
 simp only[aS,ho]at htr;split at htr
 ·rename_i fs hu;split at htr
  ·rename_i f hf;split at htr
   ·rename_i n x' hs hx;cases htr;have hxv:=aN hx ht;simp only[aop]at hrun;split at hrun
    ·rename_i b j hb;cases hrun;rw[hb]at hxv;obtain⟨l,hl,hu'⟩:=hxv.ptr_inv;refine NE.val (u:= .pointer (some ⟨l.blk,l.base+(j+f.offset),none⟩)) ?_ (.ptr _ _ l hl);simp[execOp,ho,hu',Instr.fieldAt,run_underlying hu,hf,Instr.sureAddr,fieldPlace,cL hs,Addr.add_mk,Nat.add_assoc]
    ·cases hrun
   ·cases htr
  ·cases htr
 ·cases htr
theorem GW{t:TypeId}{cs:List AV}{us:List Value}{off n:Nat}{g:Bool}(hag:mK P t=some g)(hs:dY P t=some n)(hv:VRs ρ cs us){r:AV}
  (h:(if g then(if off+n<=cs.length then some (AV.agg ((cs.drop off).take n))else none)else cs[off]?)=some r):∃z,VR ρ r z/\(part t us.toArray off).run P w= .ok z w:=by
 cases g with
 | true=>
  simp only[if_true]at h;split at h
  ·rename_i hle;cases h;refine⟨.agg ((us.drop off).take n).toArray,((hv.drop off).take n).aggv,?_⟩;simp[part,gX hag,cL hs]
  ·cases h
 | false=>simp only[Bool.false_eq_true,if_false]at h;obtain⟨z,hz,hr⟩:=hv.getElem h;exact⟨z,hr,by simp[part,gX hag,hz]⟩
theorem YP{t:TypeId}{x:Operand}{i:Nat}(ho:o.op= .field t x i)(htr:aS P o=some ao)(hrun:aop a h ao=some (v,h',rd))(ht:Ops ρ a act ao.uses):
  NE P ρ h w ((execOp act.eval o).run P w) v h':=by
 have fin:∀{fs:Array Field} {f:Field} {cs:List AV} {x':AR} {g:Bool} {n:Nat},P.underlying t=some (.struct fs)->fs[i]? =some f->mK P f.type=some g->dY P f.type=some n->VR ρ (.agg cs) (act.eval x)->
   (if g then(if f.offset+n<=cs.length then some (AV.agg ((cs.drop f.offset).take n))else none)else cs[f.offset]?)=some v->h'=h->NE P ρ h w ((execOp act.eval o).run P w) v h':=by
  intro fs f cs x' g n hu hf hg hn hv hc e;subst e;obtain⟨us,e1,hus⟩:=hv.agg_inv;obtain⟨z,hz,hrun⟩:=GW (P:=P) (w:=w) hg hn hus hc;exact NE.val (u:=z) (by simp[execOp,ho,e1,Instr.field,run_underlying hu,hf,asAgg,hrun]) hz
 simp only[aS,ho]at htr;split at htr
 ·rename_i fs hu;split at htr
  ·rename_i f hf;split at htr
   ·rename_i n x' hg hs hx;cases htr;have hxv:=aN hx ht;simp only[aop]at hrun;split at hrun
    ·rename_i cs hc;split at hrun
     ·rename_i hle;cases hrun;rw[hc]at hxv;exact fin (x':=x') hu hf hg hs hxv (by simp[hle]) rfl
     ·cases hrun
    ·cases hrun
   ·rename_i x' hg hx;cases htr;have hxv:=aN hx ht;simp only[aop]at hrun;split at hrun
    ·rename_i cs hc;split at hrun
     ·rename_i y hy;cases hrun;rw[hc]at hxv;have hsz:∃n,dY P f.type=some n:=by
       unfold mK Program.underlying at hg;unfold dY
       cases hi:P.info? f.type with
       | none=>simp[hi]at hg
       | some i=>exact⟨i.size,rfl⟩
      obtain⟨n,hn⟩:=hsz;exact fin (x':=x') hu hf hg hn hxv (by simpa using hy) rfl
     ·cases hrun
    ·cases hrun
   ·cases htr
  ·cases htr
 ·cases htr
theorem ED{t:TypeId}{x i:Operand}(ho:o.op= .indexAddr t x i)(htr:aS P o=some ao)(hrun:aop a h ao=some (v,h',rd))(ht:Ops ρ a act ao.uses):
  NE P ρ h w ((execOp act.eval o).run P w) v h':=by
 simp only[aS,ho]at htr;split at htr
 ·rename_i e x' i' hu hx hi;split at htr
  ·rename_i s hs;cases htr;simp only[AO.uses]at ht;have h1:=aN hx ht.left;have h2:=aN hi ht.right;simp only[aop]at hrun;split at hrun
   ·rename_i fl sz b j n k m e1 e2;rw[e1]at h1;rw[e2]at h2;split at hrun
    ·rename_i hc;obtain⟨rfl,hc⟩:=hc;cases hrun;obtain⟨ad,cap,hxe,g1,g2,g3,g4⟩:=h1.slice_inv;obtain⟨l,hl,rfl,_⟩:=g4 (by omega);refine NE.val (u:= .pointer (some ⟨l.blk,l.base+(j+m.toNat*sz),none⟩)) ?_ (.ptr _ _ l hl);simp[execOp,ho,hxe,h2.int_inv,Instr.indexAt,asIntOf,run_underlying hu,hc,cL hs,Addr.add_mk,Nat.add_assoc]
    ·cases hrun
   ·cases hrun
  ·cases htr
 ·rename_i len e x' i' hu hx hi;split at htr
  ·rename_i s hs;cases htr;simp only[AO.uses]at ht;have h1:=aN hx ht.left;have h2:=aN hi ht.right;simp only[aop]at hrun;split at hrun
   ·rename_i b j k m e1 e2;rw[e1]at h1;rw[e2]at h2;split at hrun
    ·rename_i hc;cases hrun;obtain⟨l,hl,hxe⟩:=h1.ptr_inv;refine NE.val (u:= .pointer (some ⟨l.blk,l.base+(j+m.toNat*s),none⟩)) ?_ (.ptr _ _ l hl);simp[execOp,ho,hxe,h2.int_inv,Instr.indexAt,asIntOf,run_underlying hu,Instr.sureAddr,hc,cL hs,Addr.add_mk,Nat.add_assoc]
    ·cases hrun
   ·cases hrun
  ·cases htr
 ·cases htr
theorem YO{t:TypeId}{x i:Operand}(ho:o.op= .index t x i)(htr:aS P o=some ao)(hrun:aop a h ao=some (v,h',rd))(ht:Ops ρ a act ao.uses):
  NE P ρ h w ((execOp act.eval o).run P w) v h':=by
 simp only[aS,ho]at htr;split at htr
 ·rename_i n e x' i' hu hx hi;split at htr
  ·rename_i s g hs hg;cases htr;simp only[AO.uses]at ht;have h1:=aN hx ht.left;have h2:=aN hi ht.right;simp only[aop]at hrun;split at hrun
   ·rename_i cs k m e1 e2;rw[e1]at h1;rw[e2]at h2;split at hrun
    ·rename_i hc;obtain⟨us,hxe,hus⟩:=h1.agg_inv;have hp:(if g then(if m.toNat*s+s<=cs.length then some (AV.agg ((cs.drop (m.toNat*s)).take s))else none)else cs[m.toNat*s]?)=some v/\h'=h:=by
      cases g with
      | true=>
       simp only[if_true]at hrun ⊢;split at hrun
       ·rename_i hle;cases hrun;exact⟨by rw[if_pos hle],rfl⟩
       ·cases hrun
      | false=>
       simp only[Bool.false_eq_true,if_false]at hrun ⊢;split at hrun
       ·rename_i y hy;cases hrun;exact⟨hy,rfl⟩
       ·cases hrun
     obtain⟨hp,rfl⟩:=hp;obtain⟨z,hz,hr⟩:=GW (P:=P) (w:=w) hg hs hus hp;exact NE.val (u:=z) (by simp[execOp,ho,hxe,h2.int_inv,Instr.index,asIntOf,run_underlying hu,hc,cL hs,hr]) hz
    ·cases hrun
   ·cases hrun
  ·cases htr
 ·rename_i x' i' hu hx hi;cases htr;simp only[AO.uses]at ht;have h1:=aN hx ht.left;have h2:=aN hi ht.right;simp only[aop]at hrun;split at hrun
  ·rename_i s k m e1 e2;rw[e1]at h1;rw[e2]at h2;split at hrun
   ·rename_i hc;split at hrun
    ·rename_i c hcs;cases hrun;exact NE.val (u:= .int .u8 c.toNat) (by simp[execOp,ho,h1.str_inv,h2.int_inv,Instr.index,asIntOf,run_underlying hu,hc,hcs]) (.int _ _)
    ·cases hrun
   ·cases hrun
  ·cases hrun
 ·cases htr
theorem mH{t:TypeId}{kd:Nat}(hk:oQ P t=some kd):∃d,P.underlying t=some d/\((kd=0/\∃q,d= .int q)\/(kd=1/\d= .bool)\/(kd=2/\d= .string)):=by
 unfold oQ at hk;split at hk<;>first | (cases hk;done) | skip
 ·rename_i q hu;cases hk;exact⟨_,hu,.inl ⟨rfl,q,rfl⟩⟩
 ·rename_i hu;cases hk;exact⟨_,hu,.inr (.inl ⟨rfl,rfl⟩)⟩
 ·rename_i hu;cases hk;exact⟨_,hu,.inr (.inr ⟨rfl,rfl⟩)⟩
theorem d8{b:Bool}{k:TypeId}{kd:Nat}{u:Value}(hk:oQ P k=some kd):(Instr.checkKey b 10000 k u).run P w= .ok () w:=by obtain⟨d,hu,hd⟩:=mH hk;show(Instr.checkKey b (9999+1) k u).run P w=_;unfold Instr.checkKey;rcases hd with⟨_,q,rfl⟩ | ⟨_,rfl⟩ | ⟨_,rfl⟩<;>simp[run_underlying hu]
theorem l5{kd:Nat}{d:TypeDesc}{x y:AV}{b:Bool}{u u':Value}(hd:(kd=0/\∃q,d= .int q)\/(kd=1/\d= .bool)\/(kd=2/\d= .string))(h:uQ kd x y=some b)(hx:VR ρ x u)(hy:VR ρ y u'):
  Instr.sameNow d u u'=some b/\(b=true->Instr.sameBits 10000 u' u=true):=by
 unfold uQ at h;split at h<;>first | (cases h;done) | skip
 ·rename_i k m k' n;split at h
  ·rename_i hk;subst hk;cases h;rcases hd with⟨_,q,rfl⟩ | ⟨hh,_⟩ | ⟨hh,_⟩
   ·rw[hx.int_inv,hy.int_inv];refine⟨by simp[Instr.sameNow],fun hb=>?_⟩;simp at hb;subst hb;simp[Instr.sameBits]
   ·cases hh
   ·cases hh
  ·cases h
 ·rename_i m n;cases h;rcases hd with⟨hh,_⟩ | ⟨_,rfl⟩ | ⟨hh,_⟩
  ·cases hh
  ·rw[hx.bool_inv,hy.bool_inv];refine⟨by simp[Instr.sameNow],fun hb=>?_⟩;simp at hb;subst hb;simp[Instr.sameBits]
  ·cases hh
 ·rename_i m n;cases h;rcases hd with⟨hh,_⟩ | ⟨hh,_⟩ | ⟨_,rfl⟩
  ·cases hh
  ·cases hh
  ·rw[hx.str_inv,hy.str_inv];refine⟨by simp[Instr.sameNow],fun hb=>?_⟩
   cases m with
   | mk dm=>
    cases n with
    | mk dn=>have e:dm=dn:=eq_of_beq (show(dm==dn)=true from hb);subst e;simp only[Instr.sameBits];exact hb
theorem MV{kd:Nat}{d:TypeDesc}(hd:(kd=0/\∃q,d= .int q)\/(kd=1/\d= .bool)\/(kd=2/\d= .string)){k:AV}{u:Value}(hk:VR ρ k u):
  ∀{es:List (AV×AV)} {en:List MapEntry} {r:Option AV} (i:Nat),iG kd k es=some r->VRs ρ (es.map (·.1)) (en.map (·.key))->VRs ρ (es.map (·.2)) (en.map (·.val))->
   (r=none/\Instr.findNow d u en i=some none)\/(∃y z j,r=some y/\Instr.findNow d u en i=some (some (i+j,z))/\VR ρ y z/\∃e,en[j]? =some e/\Instr.sameBits 10000 e.key u=true):=by
 intro es
 induction es with
 | nil=>
  intro en r i hf h1 h2;have:en=[]:=by have:=h1.1;simpa using this
  subst this;cases hf;exact .inl ⟨rfl,rfl⟩
 | cons p es ih=>
  intro en r i hf h1 h2;obtain⟨k',y⟩:=p
  cases en with
  | nil=>have:=h1.1;simp at this
  | cons e en=>
   simp only[List.map_cons]at h1 h2;simp only[iG]at hf;split at hf
   ·rename_i hq;cases hf;obtain⟨q1,q2⟩:=l5 hd hq hk h1.head;exact .inr ⟨y,e.val,0,rfl,by simp[Instr.findNow,q1],h2.head,e,rfl,q2 rfl⟩
   ·rename_i hq;obtain⟨q1,_⟩:=l5 hd hq hk h1.head;rcases ih (i+1) hf h1.tail h2.tail with⟨r1,r2⟩ | ⟨y',z,j,r1,r2,r3,e',r4,r5⟩
    ·exact .inl ⟨r1,by simp[Instr.findNow,q1,r2]⟩
    ·exact .inr ⟨y',z,j+1,r1,by simp only[Instr.findNow,q1,r2];congr 3;omega,r3,e',by simpa using r4,r5⟩
   ·cases hf
theorem BQ{t:TypeId}{z:AV}(hs:OY P t=some z):∃u,(∀w,(zeroValue t).run P w= .ok u w)/\fJ u=some z:=by
 unfold OY at hs
 cases hi:P.info? t with
 | none=>simp[hi]at hs
 | some i=>
  cases hz:i.zero with
  | none=>simp[hi,hz]at hs
  | some u=>exact⟨u,fun w=>by simp[zeroValue,iZ hi,hz],by simpa [hi,hz]using hs⟩
theorem VR.pair{x y:AV}{u u':Value}(hx:VR ρ x u)(hy:VR ρ y u'):VR ρ (.tuple [x,y]) (.tuple #[u,u']):=(VRs.cons hx (VRs.cons hy (VRs.nil ρ))).tuplev
theorem zZ{x:Operand}{xt t:TypeId}{ok:Bool}(ho:o.op= .typeAssert x xt t ok)(htr:aS P o=some ao)(hrun:aop a h ao=some (v,h',rd))(ht:Ops ρ a act ao.uses):
  NE P ρ h w ((execOp act.eval o).run P w) v h':=by
 simp only[aS,ho]at htr;split at htr
 ·cases htr
 ·rename_i d z x' hni hu hz hx;cases htr;simp only[AO.uses]at ht;have h1:=aN hx ht;obtain⟨zu,hzr,hzc⟩:=BQ hz;have hzv:VR ρ z zu:=(fW hzc).1;have hni:∀m,d≠ .interface m:=fun m e=>by subst e;exact hni m rfl
  simp only[aop]at hrun;split at hrun
  ·rename_i hm;cases hrun;rw[hm]at h1;have hxe:act.eval x= .nilIface:=by generalize act.eval x=u at h1;cases h1;rfl
   refine NE.val (u:= .tuple #[zu,.bool false]) ?_ (VR.pair hzv (.bool _));cases d<;>first | exact absurd rfl (hni _) | simp[execOp,ho,hxe,Instr.typeAssert,run_underlying hu,hzr]
  ·rename_i t' v' hm;cases hrun;rw[hm]at h1;obtain⟨u',hxe,hv'⟩:∃u',act.eval x= .iface t' u'/\VR ρ v' u':=by generalize act.eval x=u at h1;cases h1;exact⟨_,rfl,by assumption⟩
   by_cases e:t'=t
   ·rw[if_pos e];refine NE.val (u:= .tuple #[u',.bool true]) ?_ (VR.pair hv' (.bool _));cases d<;>first | exact absurd rfl (hni _) | simp[execOp,ho,hxe,Instr.typeAssert,run_underlying hu,e]
   ·rw[if_neg e];refine NE.val (u:= .tuple #[zu,.bool false]) ?_ (VR.pair hzv (.bool _));cases d<;>first | exact absurd rfl (hni _) | simp[execOp,ho,hxe,Instr.typeAssert,run_underlying hu,e,hzr]
  ·cases hrun
 ·cases htr
theorem TM{t:TypeId}{x i:Operand}{ok:Bool}(ho:o.op= .lookup t x i ok)(htr:aS P o=some ao)(hrun:aop a h ao=some (v,h',rd))(ht:Ops ρ a act ao.uses)(hobj:KA P ρ h w rd):
  NE P ρ h w ((execOp act.eval o).run P w) v h':=by
 simp only[aS,ho]at htr;split at htr
 ·rename_i k e x' i' hu hx hi;split at htr
  ·rename_i z kd hz hk;cases htr;simp only[AO.uses]at ht;have h1:=aN hx ht.left;have h2:=aN hi ht.right;obtain⟨zu,hzr,hzc⟩:=BQ hz;have hzv:VR ρ z zu:=(fW hzc).1;obtain⟨d,hd,hdk⟩:=mH hk;simp only[aop]at hrun;split at hrun
   ·rename_i hm;cases hrun;rw[hm]at h1;have hxe:act.eval x= .map none:=by generalize act.eval x=u at h1;cases h1;rfl
    cases ok with
    | true=>refine NE.val (u:= .tuple #[zu,.bool false]) ?_ (VR.pair hzv (.bool _));simp[execOp,ho,hxe,Instr.lookup,run_underlying hu,d8 hk,Instr.findKey,run_underlying hd,Instr.findNow,hzr]
    | false=>refine NE.val (u:=zu) ?_ hzv;simp[execOp,ho,hxe,Instr.lookup,run_underlying hu,d8 hk,Instr.findKey,run_underlying hd,Instr.findNow,hzr]
   ·rename_i r hm;rw[hm]at h1;obtain⟨l,hl,hxe⟩:=h1.map_inv;split at hrun
    ·rename_i ver es hg;have fin:∀{res:Option AV},iG kd (ev a i') es=some res->rd=[r]->h'=h->(v=match res with | some y=>if ok then .tuple [y,.bool true]else y | none=>if ok then .tuple [z,.bool false]else z)->
       NE P ρ h w ((execOp act.eval o).run P w) v h':=by
      intro res hf hr e ev';subst hr;subst e;obtain⟨en,ck,g1,g2,g3⟩:=hobj r (by simp) l _ hl hg;have hgo:(getObj l.blk).run P w= .ok (.map en ck) w:=by simp[getObj,Sem.run,g1]
      rcases MV hdk h2 0 hf g2 g3 with⟨rfl,q⟩ | ⟨y,z',j,rfl,q,q2,_⟩
      ·simp only at ev';subst ev'
       cases ok with
       | true=>refine NE.val (u:= .tuple #[zu,.bool false]) ?_ (VR.pair hzv (.bool _));simp[execOp,ho,hxe,Instr.lookup,run_underlying hu,hgo,d8 hk,Instr.findKey,run_underlying hd,q,hzr]
       | false=>refine NE.val (u:=zu) ?_ hzv;simp[execOp,ho,hxe,Instr.lookup,run_underlying hu,hgo,d8 hk,Instr.findKey,run_underlying hd,q,hzr]
      ·simp only at ev';subst ev'
       cases ok with
       | true=>refine NE.val (u:= .tuple #[z',.bool true]) ?_ (VR.pair q2 (.bool _));simp[execOp,ho,hxe,Instr.lookup,run_underlying hu,hgo,d8 hk,Instr.findKey,run_underlying hd,q]
       | false=>refine NE.val (u:=z') ?_ q2;simp[execOp,ho,hxe,Instr.lookup,run_underlying hu,hgo,d8 hk,Instr.findKey,run_underlying hd,q]
     split at hrun
     ·rename_i y hf;cases hrun;exact fin hf rfl rfl rfl
     ·rename_i hf;cases hrun;exact fin hf rfl rfl rfl
     ·cases hrun
    ·cases hrun
   ·cases hrun
  ·cases htr
 ·cases htr
theorem L2{x:Operand}{i:Nat}(ho:o.op= .extract x i)(htr:aS P o=some ao)(hrun:aop a h ao=some (v,h',rd))(ht:Ops ρ a act ao.uses):
  NE P ρ h w ((execOp act.eval o).run P w) v h':=by
 simp only[aS,ho,Option.map_eq_some_iff]at htr;obtain⟨x',hx,rfl⟩:=htr;have hxv:=aN hx ht;simp only[aop]at hrun;split at hrun
 ·rename_i vs hvs;split at hrun
  ·rename_i y hy;cases hrun;rw[hvs]at hxv;obtain⟨us,hxe,hus⟩:=hxv.tuple_inv;obtain⟨z,hz,hr⟩:=hus.getElem hy;exact NE.val (u:=z) (by simp[execOp,ho,hxe,Instr.extract,hz]) hr
  ·cases hrun
 ·cases hrun
end
section
variable {P:Program} {ρ:Emb} {w:World} {a:List AV} {act:Act} {h h':H} {o:Oper} {ao:AO} {v:AV} {rd:List Nat}
theorem yR{f:Value->Value->Sem Value}{g:AV->AV->Option AV}(hfg:∀{x y r:AV} {u u':Value},g x y=some r->VR ρ x u->VR ρ y u'->∃z,VR ρ r z/\(f u u').run P w= .ok z w):
  ∀{xs:List AV} {us:List Value} {x r:AV} {u:Value},kE g x xs=some r->VR ρ x u->VRs ρ xs us->∃z,VR ρ r z/\(us.foldlM f u).run P w= .ok z w:=by
 intro xs
 induction xs with
 | nil=>intro us x r u hf hx hs;simp[kE]at hf;subst hf;rw[hs.nil_inv];exact⟨u,hx,rfl⟩
 | cons y ys ih=>
  intro us x r u hf hx hs;obtain⟨u',us',rfl,h1,h2⟩:=hs.cons_inv;simp only[kE]at hf;split at hf
  ·rename_i q hq;obtain⟨z,hz,hr⟩:=hfg hq hx h1;obtain⟨z2,hz2,hr2⟩:=ih hf hz h2;exact⟨z2,hz2,by simp only[List.foldlM_cons,Sem.run_bind,hr,Result.andThen_ok,hr2]⟩
  ·cases hf
theorem aCI{x y r:AV}{u u':Value}(h:zE x y=some r)(hx:VR ρ x u)(hy:VR ρ y u'):∃z,VR ρ r z/\(Builtin.max2 u u').run P w= .ok z w:=by
 unfold zE at h;split at h
 ·cases h;rw[hx.int_inv,hy.int_inv];exact⟨_,.int _ _,by simp[Builtin.max2]⟩
 ·cases h
theorem aCH{x y r:AV}{u u':Value}(h:zD x y=some r)(hx:VR ρ x u)(hy:VR ρ y u'):∃z,VR ρ r z/\(Builtin.min2 u u').run P w= .ok z w:=by
 unfold zD at h;split at h
 ·cases h;rw[hx.int_inv,hy.int_inv];exact⟨_,.int _ _,by simp[Builtin.min2]⟩
 ·cases h
theorem L4{c:Call}{b:Builtin}(ho:o.op= .call c)(hc:c.callee= .builtin b)(htr:aS P o=some ao)(hne:ao.effect=false)(hrun:aop a h ao=some (v,h',rd))(ht:Ops ρ a act ao.uses)(hobj:KA P ρ h w rd):
  NE P ρ h w ((execOp act.eval o).run P w) v h':=by
 have hexec:∀(u:Value),((builtin b c.argTypes o.type (c.args.map fun | .const _=>true | _=>false) (c.args.map act.eval)).run P w= .ok (.value u) w)->(execOp act.eval o).run P w= .ok (.value u) w:=by intro u hu;simp only[execOp,ho,resolve,hc,Sem.run_bind,Sem.run_pure,Result.andThen_ok,invoke];exact hu
 simp only[aS,ho,hc]at htr;unfold fX at htr;split at htr
 ·--append
  split at htr
  ·split at htr
   ·split at htr
    ·cases htr;simp[AO.effect]at hne
    ·cases htr
   ·cases htr
  ·split at htr
   ·split at htr
    ·cases htr;simp[AO.effect]at hne
    ·cases htr
   ·cases htr
  ·split at htr
   ·split at htr
    ·cases htr;simp[AO.effect]at hne
    ·cases htr
   ·cases htr
  ·cases htr
 ·--len
  rename_i t ts x hts hargs;have hat:c.argTypes[0]? =some t:=by rw[<-Array.getElem?_toList,hts];rfl
  have hag:c.args[0]? =some x:=by rw[<-Array.getElem?_toList,hargs];rfl
  have hl:∀{u:Value},(Builtin.len_ c.argTypes o.type (c.args.map act.eval)).run P w= .ok u w->(execOp act.eval o).run P w= .ok (.value u) w:=fun hh=>hexec _ (by simp[builtin,hh]);split at htr
  ·rename_i e x' hu hx;cases htr;have hxv:=aN hx ht;simp only[aop]at hrun;split at hrun
   ·rename_i hm;cases hrun;rw[hm]at hxv;have hxe:act.eval x= .slice none 0 0:=by generalize act.eval x=u at hxv;cases hxv;rfl
    exact NE.val (hl (by simp[Builtin.len_,hat,hag,hxe,run_underlying hu];rfl)) (.int _ _)
   ·rename_i fl sz b i n hm;cases hrun;rw[hm]at hxv;obtain⟨ad,cap,hxe,_⟩:=hxv.slice_inv;exact NE.val (hl (by simp[Builtin.len_,hat,hag,hxe,run_underlying hu];rfl)) (.int _ _)
   ·cases hrun
  ·rename_i x' hu hx;cases htr;have hxv:=aN hx ht;simp only[aop]at hrun;split at hrun
   ·rename_i s hm;cases hrun;rw[hm]at hxv;exact NE.val (hl (by simp[Builtin.len_,hat,hag,hxv.str_inv,run_underlying hu];rfl)) (.int _ _)
   ·cases hrun
  ·rename_i k e x' hu hx;cases htr;have hxv:=aN hx ht;simp only[aop]at hrun;split at hrun
   ·rename_i hm;cases hrun;rw[hm]at hxv;have hxe:act.eval x= .map none:=by generalize act.eval x=u at hxv;cases hxv;rfl
    exact NE.val (hl (by simp[Builtin.len_,hat,hag,hxe,run_underlying hu];rfl)) (.int _ _)
   ·rename_i r hm;rw[hm]at hxv;obtain⟨l,hlr,hxe⟩:=hxv.map_inv;split at hrun
    ·rename_i ver es hg;cases hrun;obtain⟨en,ck,g1,g2,g3⟩:=hobj r (by simp) l _ hlr hg;have hgo:(getObj l.blk).run P w= .ok (.map en ck) w:=by simp[getObj,Sem.run,g1]
     have hlen:en.size=es.length:=by have:=g2.1;simpa using this
     exact NE.val (hl (by simp[Builtin.len_,hat,hag,hxe,run_underlying hu,hgo,hlen];rfl)) (.int _ _)
    ·cases hrun
   ·cases hrun
  ·rename_i n e hu;cases htr;simp only[aop,Option.some.injEq,Prod.mk.injEq]at hrun;obtain⟨rfl,rfl,rfl⟩:=hrun;exact NE.val (hl (by simp[Builtin.len_,hat,hag,run_underlying hu];rfl)) (.int _ _)
  ·cases htr
 ·--cap
  rename_i t ts x hts hargs;have hat:c.argTypes[0]? =some t:=by rw[<-Array.getElem?_toList,hts];rfl
  have hag:c.args[0]? =some x:=by rw[<-Array.getElem?_toList,hargs];rfl
  have hl:∀{u:Value},(Builtin.cap_ c.argTypes o.type (c.args.map act.eval)).run P w= .ok u w->(execOp act.eval o).run P w= .ok (.value u) w:=fun hh=>hexec _ (by simp[builtin,hh]);split at htr
  ·rename_i e x' hu hx;cases htr;have hxv:=aN hx ht;simp only[aop]at hrun;split at hrun
   ·rename_i hm;cases hrun;rw[hm]at hxv;have hxe:act.eval x= .slice none 0 0:=by generalize act.eval x=u at hxv;cases hxv;rfl
    exact NE.val (hl (by simp[Builtin.cap_,hat,hag,hxe,run_underlying hu];rfl)) (.int _ _)
   ·rename_i sz b i n hm;cases hrun;rw[hm]at hxv;obtain⟨ad,cap,hxe,_,_,hfl,_⟩:=hxv.slice_inv;have:=hfl rfl;subst this;exact NE.val (hl (by simp[Builtin.cap_,hat,hag,hxe,run_underlying hu];rfl)) (.int _ _)
   ·cases hrun
  ·cases htr
 ·--copy
  repeat' split at htr
  all_goals (first | (cases htr;done) | (cases htr;simp[AO.effect]at hne))
 ·--clear
  repeat' split at htr
  all_goals (first | (cases htr;done) | (cases htr;simp[AO.effect]at hne))
 ·--max
  rename_i x xs hargs;split at htr
  ·rename_i x' xs' hx hxs;cases htr;simp only[AO.uses]at ht;have h1:=aN hx ht.left;have h2:=lW hxs ht.right;simp only[aop]at hrun;split at hrun
   ·rename_i r hr;cases hrun;obtain⟨z,hz,hrz⟩:=yR (P:=P) (w:=w) (f:=Builtin.max2) (fun hh p q=>aCI hh p q) hr h1 h2;refine NE.val (hexec z ?_) hz;have e:(c.args.map act.eval).toList=act.eval x::xs.map act.eval:=by simp[hargs]
    simp only[builtin,Builtin.max_,e,Sem.run_bind,hrz,Result.andThen_ok,Sem.run_pure]
   ·cases hrun
  ·cases htr
 ·--min
  rename_i x xs hargs;split at htr
  ·rename_i x' xs' hx hxs;cases htr;simp only[AO.uses]at ht;have h1:=aN hx ht.left;have h2:=lW hxs ht.right;simp only[aop]at hrun;split at hrun
   ·rename_i r hr;cases hrun;obtain⟨z,hz,hrz⟩:=yR (P:=P) (w:=w) (f:=Builtin.min2) (fun hh p q=>aCH hh p q) hr h1 h2;refine NE.val (hexec z ?_) hz;have e:(c.args.map act.eval).toList=act.eval x::xs.map act.eval:=by simp[hargs]
    simp only[builtin,Builtin.min_,e,Sem.run_bind,hrz,Result.andThen_ok,Sem.run_pure]
   ·cases hrun
  ·cases htr
 ·cases htr
theorem aFj(htr:aS P o=some ao)(hne:ao.effect=false)(hrun:aop a h ao=some (v,h',rd))(ht:Ops ρ a act ao.uses)(hobj:KA P ρ h w rd):
  NE P ρ h w ((execOp act.eval o).run P w) v h':=by
 cases ho:o.op with
 | move x=>exact QA (.inl ho) htr hrun ht
 | assign x=>exact QA (.inr ho) htr hrun ht
 | pick c x y=>exact aCC ho htr hrun ht
 | alloc e=>exact YS ho htr hrun
 | box e x=>exact aFk ho htr hrun ht
 | build t ps=>exact YQ ho htr hrun ht
 | buildSlice t len ps=>exact AA ho htr hrun ht
 | load t x=>exact aCD ho htr hrun ht hobj
 | nilCheck x=>exact HV ho htr hrun ht
 | binOp op t x y t2=>exact YR ho htr hrun ht
 | unOp op t x=>exact aCB ho htr hrun ht
 | convert s d x=>exact L3 ho htr hne hrun ht hobj
 | makeInterface t x=>exact tD ho htr hrun ht
 | makeFunc fn f c=>exact HZ ho htr hrun ht
 | makeMap t r=>exact L0 ho htr hrun
 | makeSlice t n c=>exact EC ho htr hrun ht
 | slice t x lo hi mx=>exact YN ho htr hrun ht hobj
 | fieldAddr t x i=>exact EE ho htr hrun ht
 | field t x i=>exact YP ho htr hrun ht
 | indexAddr t x i=>exact ED ho htr hrun ht
 | index t x i=>exact YO ho htr hrun ht
 | lookup t x i ok=>exact TM ho htr hrun ht hobj
 | extract x i=>exact L2 ho htr hrun ht
 | typeAssert x xt t ok=>exact zZ ho htr hrun ht
 | panic x=>simp only[aS,ho]at htr;cases htr;simp[aop,ev]at hrun
 | call c=>
  cases hc:c.callee with
  | builtin b=>exact L4 ho hc htr hne hrun ht hobj
  | value f=>
   simp only[aS,ho,hc]at htr;split at htr
   ·cases htr;simp[AO.effect]at hne
   ·cases htr
  | invoke r m=>
   simp only[aS,ho,hc]at htr;split at htr
   ·cases htr;simp[AO.effect]at hne
   ·cases htr
 | store t p x=>
  simp only[aS,ho]at htr;split at htr
  ·cases htr;simp[AO.effect]at hne
  ·cases htr
 | mapUpdate t m k x=>
  simp only[aS,ho]at htr;split at htr
  ·split at htr
   ·cases htr;simp[AO.effect]at hne
   ·cases htr
  ·cases htr
 | insert t m k x=>
  simp only[aS,ho]at htr;split at htr
  ·split at htr
   ·cases htr;simp[AO.effect]at hne
   ·cases htr
  ·cases htr
 | _=>simp[aS,ho]at htr
theorem aEt(htr:wS P o=some ao)(hne:ao.effect=false)(hrun:aop a h ao=some (v,h',rd))(ht:Ops ρ a act ao.uses)(hobj:KA P ρ h w rd):
  NE P ρ h w ((execOp act.eval o).run P w) v h':=by
 rcases lX _ htr with h0 | ⟨rfl,_⟩
 ·exact aFj h0 hne hrun ht hobj
 ·simp[AO.stuck,aop,ev]at hrun
end
end Go.Am

