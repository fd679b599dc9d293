/- budget.key as a given function. -/
import Derived.Test.YtapbgleednkimaaGreatDoorBuFu
import Derived.Test.YtapbgleednkimaaGreatDoorZLay1
import Derived.WalkKit
import Derived.ProofKit
import Derived.BigCall
import Derived.BigGuard
set_option linter.unusedVariables false
set_option linter.unusedSimpArgs false
namespace Go.Am.Key
open Go Go.Am Go.Am.ArK Go.Shelf Go.RowKit Go.Sort Go.Lib Go.Proofs
abbrev Lz:=Proofs.YtapbgleednkimaaGreatDoor.Lay.Lays_n156
theorem extra:Proofs.Builder.Extra Tryz.prog Proofs.YtapbgleednkimaaGreatDoor.Lay.renNm where
 sizeBuilder:=by kernel_rfl
 liesBuilder:=by kernel_rfl
 t5:=Tryz.underlying5
 a5:=Tryz.isAgg5
 z5:=Tryz.sizeOf5
 v5:=Tryz.zeroValue5
 infoByte:=by kernel_rfl
 cellsByte:=by kernel_rfl
 sizeByte:=by kernel_rfl
 neB5:=by decide
theorem UE{P:Program}{w w':World}(h:GlbAt P w)(hb:Below w.heap.size w w'):GlbAt P w':=h.keep fun b l _ hlt=>hb.block b hlt
theorem zY{B:Nat}{e:TypeId}{k:Nat}{v:Value}{n:Nat}{xs:List Value}{w w':World}(h:w.ownsRow B e k v n xs)(hb:Below w.heap.size w w'):w'.ownsRow B e k v n xs:=
 ⟨h.1,h.2.imp id fun⟨g,cap,cur,h1,h2,h3,h4,h5,h6⟩=>⟨g,cap,cur,h1,h2,by rw[hb.block g (Array.getElem?_eq_some_iff.1 h3).1];exact h3,h4,h5,h6⟩⟩
theorem AN{T e:TypeId}{B b:Nat}{bs:List Value}{w w':World}(h:Lib.IsBuilder T e B b bs w)(hb:Below w.heap.size w w'):Lib.IsBuilder T e B b bs w':=by
 have key:∀p,Lib.BuilderAt T e B b p bs w->Lib.BuilderAt T e B b p bs w':=fun p ⟨h1,v,h2,h3,h4⟩=>
  ⟨h1,v,by rw[hb.block b (Array.getElem?_eq_some_iff.1 h2).1];exact h2,zY h3 hb,h4⟩
 exact h.imp (key _) (key _)
def keyT:List Nat->List UInt8
 | []=>[]
 | x::r=>t36 x++32::keyT r
theorem DG(u:Nat)(hu:u<18446744073709551616):(t36 u).length<=13:=by have:=(NH hu 12 0 rfl).2;unfold t36;rw[List.length_cons,nF];show cXf u 0 12+1<=13;omega
theorem CG:∀(l:List Nat) (x:Nat),keyT (l++[x])=keyT l++(t36 x++[32])
 | [],x=>by simp[keyT]
 | y::l,x=>by simp[keyT,CG l x]
theorem IC:∀{l:List Nat},(∀x∈l,x<18446744073709551616)->(keyT l).length<=14*l.length
 | [],_=>Nat.le_refl _
 | x::l,h=>by have h1:=DG x (h x (.head _));have h2:=IC (l:=l) fun y hy=>h y (.tail _ hy);simp only[keyT,List.length_append,List.length_cons];omega
set_option maxHeartbeats 4000000 in
set_option maxRecDepth 100000 in
theorem ZL(bk o c:Nat)(xs:List Nat)(w:World)(hgl:GlbAt Tryz.prog w)(hx:∀x∈xs,x<18446744073709551616)(hl:xs.length<=64)
  (hcells:∀(j:Nat) x,xs[j]? =some x->w.cell? ⟨bk,o+j,none⟩=some (.int .u64 (x:Int))) (hbk:bk<w.heap.size):
  Calls Tryz.prog 155 #[.slice (some ⟨bk,o,none⟩) xs.length c] w fun e w'=>e= .returned (.string ⟨(keyT xs).toArray⟩)/\Below w.heap.size w w':=by
 have HC:=Any.hidJ hcells;have HX:=Any.hidJ hx;have HG:=Any.hidJ hgl;clear hcells hx hgl
 go_enter Tryz.func155,Tryz.ntmps155
 go_wp2_with fail
 go_loopw [8] (fun i wr=>∃k:Nat,k<=xs.length/\i= .int .i64 k/\Hid (Lib.IsBuilder 185 5 w.heap.size w.heap.size (Lib.byteCells (keyT (xs.take k))) wr)/\Hid (Below w.heap.size w wr)) (fun i _=>xs.length-(RowKit.intOf i).toNat)
 case atStart=>exact⟨0,Nat.zero_le _,rfl,Any.hidJ (Lib.fresh_isBuilder 185 5 w),Any.hidJ ((Below.refl w.heap.size w).alloc (Nat.le_refl _) _)⟩
 case round=>
  obtain⟨k,hk,rfl,HB,HW⟩:=hrel;by_cases hkn:k<xs.length
  ·obtain⟨x,hx⟩:∃x,xs[k]? =some x:=⟨xs[k],List.getElem?_eq_getElem hkn⟩;have hcx:wr.cell? ⟨bk,o+k,none⟩=some (.int .u64 (x:Int)):=by rw[HW.out.cell (p:=⟨bk,o+k,none⟩) hbk];exact HC.out k x hx
   have hx64:x<18446744073709551616:=HX.out x (List.mem_of_getElem? hx);have hBw:w.heap.size<=wr.heap.size:=HW.out.size;have hglr:GlbAt Tryz.prog wr:=UE HG.out HW.out;have hfu:=aHA x hx64 wr hglr;have hnext:Lib.byteCells (keyT (xs.take k))++Lib.strCells ⟨(t36 x++[32]).toArray⟩=Lib.byteCells (keyT (xs.take (k+1))):=by rw[List.take_add_one,hx,Option.toList_some,CG,Lib.strCells_eq,<-Lib.byteCells_append]
   have hlen:(Lib.byteCells (keyT (xs.take k))).length+(ByteArray.mk (t36 x++[32]).toArray).size<=140737488355328:=by
    have h1:=IC (l:=xs.take k) fun y hy=>HX.out y (List.mem_of_mem_take hy);have h2:=DG x hx64;have h3:(xs.take k).length<=64:=by rw[List.length_take];omega
    have h4:(ByteArray.mk (t36 x++[32]).toArray).size=(t36 x).length+1:=by simp[ByteArray.size]
    rw[Lib.byteCells_length,h4];omega
   have Hn:=Any.hidJ hnext;have Hl:=Any.hidJ hlen;clear hnext hlen hglr hx
   go_wp2_with (go_at_call 131;refine hfu.mono ?_;rintro e w2 ⟨rfl,hb2⟩)
   ·exfalso;rename_i hbig;have h2:=DG x hx64;have h4:(ByteArray.mk (t36 x).toArray).size=(t36 x).length:=by simp[ByteArray.size]
    have h5:(ByteArray.mk #[32]).size=1:=rfl;omega
   have hba:(ByteArray.mk (t36 x).toArray++ByteArray.mk #[32])=ByteArray.mk (t36 x++[32]).toArray:=by apply ByteArray.ext;show(ByteArray.mk (t36 x).toArray++ByteArray.mk #[32]).data=_;rw[ByteArray.data_append];simp
   rw[hba];refine(Any.Builder_WriteString {Lz with} extra w.heap.size w.heap.size _ _ w2 (AN HB.out hb2) Hl.out (Nat.le_trans hBw hb2.size)).mono ?_;rintro e w3 ⟨rfl,h3,hb3⟩;rw[Hn.out]at h3;have H3:=Any.hidJ (Or.inr h3:Lib.IsBuilder 185 5 w.heap.size w.heap.size _ w3);have Hb3:=Any.hidJ ((HW.out.trans (hb2.mono hBw)).trans hb3);clear h3 hb3 hb2
   go_wp2
   exact⟨⟨k+1,by omega,by go_num,H3,Hb3⟩,by simp[RowKit.intOf];omega⟩
  ·have hke:k=xs.length:=by omega
   subst hke;have hB':=HB.out;rw[List.take_of_length_le (Nat.le_refl _)]at hB';have hBw:w.heap.size<=wr.heap.size:=HW.out.size
   go_wp2_with (go_at_call 109;refine(Any.Builder_String_any {Lz with} extra w.heap.size w.heap.size _ wr hB' hBw).mono ?_;rintro e w5 ⟨rfl,hb5⟩)
   go_ret
   exact⟨rfl,HW.out.trans hb5⟩
set_option maxHeartbeats 4000000 in
set_option maxRecDepth 100000 in
theorem CF(a:Option Addr)(c:Nat)(w:World):
  Calls Tryz.prog 155 #[.slice a 0 c] w fun e w'=>e= .returned (.string ⟨#[]⟩)/\Below w.heap.size w w':=by
 go_enter Tryz.func155,Tryz.ntmps155
 go_wp2_with fail
 go_loopw [8] (fun i wr=>i= .int .i64 0/\Hid (Lib.IsBuilder 185 5 w.heap.size w.heap.size (Lib.byteCells []) wr)/\Hid (Below w.heap.size w wr)) (fun i _=>0)
 case atStart=>exact⟨rfl,Any.hidJ (Lib.fresh_isBuilder 185 5 w),Any.hidJ ((Below.refl w.heap.size w).alloc (Nat.le_refl _) _)⟩
 case round=>
  obtain⟨rfl,HB,HW⟩:=hrel;have hB':=HB.out;have hBw:w.heap.size<=wr.heap.size:=HW.out.size
  go_wp2_with (go_at_call 109;refine(Any.Builder_String_any {Lz with} extra w.heap.size w.heap.size _ wr hB' hBw).mono ?_;rintro e w5 ⟨rfl,hb5⟩)
  go_ret
  exact⟨rfl,HW.out.trans hb5⟩
def wordsOf:List AV->Option (List Nat)
 | []=>some []
 | v::r=>match v,wordsOf r with
  | .int .u64 x,some l=>if 0<=x/\x<18446744073709551616 then some (x.toNat::l)else none
  | _,_=>none
theorem wL{ρ:Emb} :∀{cs:List AV} {us:List Value} {xs:List Nat},VRs ρ cs us->wordsOf cs=some xs->us=xs.map (fun x:Nat=>Value.int .u64 x)/\∀x∈xs,x<18446744073709551616
 | [],us,xs,h,e=>by cases e;exact⟨by rw[h.nil_inv];rfl,fun x hx=>by cases hx⟩
 | v::r,us,xs,h,e=>by
  obtain⟨u,us',rfl,h1,h2⟩:=h.cons_inv;unfold wordsOf at e;split at e
  ·rename_i x l hl;split at e
   ·rename_i hc;cases e;obtain⟨g1,g2⟩:=wL h2 hl;refine⟨by rw[h1.int_inv,g1,List.map_cons,Int.toNat_of_nonneg hc.1],fun y hy=>?_⟩;rcases List.mem_cons.1 hy with rfl | hy
    ·omega
    ·exact g2 y hy
   ·cases e
  ·cases e
def keyF(args:List AV)(h:H):Option AV:=match args with
 | [.nilslice]=>some (.str ⟨#[]⟩)
 | [.slice _ sz b o n]=>if n=0 then some (.str ⟨#[]⟩)else if sz=1/\n<=64 then match aZ h b o n with
  | some cs=>match wordsOf cs with
   | some xs=>some (.str ⟨(keyT xs).toArray⟩)
   | none=>none
  | none=>none
  else none
 | _=>none
theorem keyPrim:PrimOk Tryz.prog 155 (bE keyF):=by
 refine jJ ⟨Tryz.f155,Tryz.func155,by kernel_rfl,by kernel_rfl⟩ keyF fun args h v hv ρ us w hus hr=>?_;unfold keyF at hv;split at hv
 ·cases hv;obtain⟨u,us',rfl,hu,hus'⟩:=hus.cons_inv;rw[hus'.nil_inv,show u= .slice none 0 0 from by cases hu;rfl];refine(CF none 0 w).mono ?_;rintro e w' ⟨rfl,hb⟩;exact⟨_,rfl,.str _,hb⟩
 ·rename_i fl sz b o n;obtain⟨u,us',rfl,hu,hus'⟩:=hus.cons_inv;rw[hus'.nil_inv];obtain⟨ad,cap,rfl,g1,g2,g3,g4⟩:=hu.slice_inv;split at hv
  ·rename_i h0;subst h0;cases hv;refine(CF (some ad) cap w).mono ?_;rintro e w' ⟨rfl,hb⟩;exact⟨_,rfl,.str _,hb⟩
  ·rename_i h0;split at hv
   ·rename_i hc;split at hv
    ·rename_i cs hcs;split at hv
     ·rename_i xs hxs;cases hv;obtain⟨l,hl,rfl,hlim⟩:=g4 (by omega);obtain⟨ver,rw,all,hg,hn,e⟩:=cJ hcs;obtain⟨vs,k1,k2,k3⟩:=(hr.obj b l _ hl hg).cells hn e;obtain⟨hvs,hx⟩:=wL k1 hxs;have hlen:xs.length=n:=by rw[<-k2,hvs,List.length_map]
      have key:=ZL l.blk (l.base+o) cap xs w hr.gat hx (by omega) (fun j x hx=>k3 j (.int .u64 (x:Int)) (by rw[hvs,List.getElem?_map,hx];rfl)) (hr.bound b l hl);rw[hlen]at key;refine key.mono ?_;rintro e w' ⟨rfl,hb⟩;exact⟨_,rfl,.str _,hb⟩
     ·cases hv
    ·cases hv
   ·cases hv
 ·cases hv
end Go.Am.Key

