/- budget.key as a given function. -/
import Derived.Test.YtapbgleednkimaaGreatDoorBuFu
import Derived.Test.YtapbgleednkimaaGreatDoorZLay1
import Derived.BigCall
import Derived.BigGuard
set_option linter.all false
set_option maxRecDepth 100000
set_option maxHeartbeats 40000000
open Nat renaming le_refl->Ac
open ByteArray renaming mk->Dd,size->Fu,ext->Ec
open Option renaming some->Iz,none->Ja
namespace Go.Am.Key
open Go Go.Am Go.Am.ArK Go.Shelf Go.RowKit Go.Sort Go.Lib Go.Proofs
abbrev Lz:=Proofs.YtapbgleednkimaaGreatDoor.Lay.mh
def extra:Proofs.Builder.Extra Tryz.prog Proofs.YtapbgleednkimaaGreatDoor.Lay.renNm where
 sizeBuilder:=by kernel_rfl
 liesBuilder:=by kernel_rfl
 t5:=Tryz.underlying5
 a5:=Tryz.isAgg5
 z5:=Tryz.sizeOf5
 v5:=Tryz.zeroValue5
 infoByte:=by kernel_rfl
 cellsByte:=by kernel_rfl
 sizeByte:=by kernel_rfl
 neB5:=by decide
def UC{P:Program}{w w':World}(h:GlbAt P w)(hb:Below w.heap.size w w'):GlbAt P w':=h.il fun b l _ hlt=>hb.block b hlt
def BL{B:Nat}{e:TypeId}{k:Nat}{v:Value}{n:Nat}{E:List Value}{w w':World}(h:w.ownsRow B e k v n E)(hb:Below w.heap.size w w'):w'.ownsRow B e k v n E:=
 ⟨h.1,h.2.imp id fun⟨g,u,y,h1,h2,h3,G,I,J⟩=>⟨g,u,y,h1,h2,by rw[hb.block g (Array.getElem?_eq_some_iff.1 h3).1];exact h3,G,I,J⟩⟩
def BS{T e:TypeId}{B b:Nat}{bs:List Value}{w w':World}(h:Lib.IsBuilder T e B b bs w)(hb:Below w.heap.size w w'):Lib.IsBuilder T e B b bs w':=by
 have u:∀p,Lib.BuilderAt T e B b p bs w->Lib.BuilderAt T e B b p bs w':=fun p ⟨h1,v,h2,h3,y⟩=>
  ⟨h1,v,by rw[hb.block b (Array.getElem?_eq_some_iff.1 h2).1];exact h2,BL h3 hb,y⟩
 exact h.imp (u _) (u _)
def lh:List Nat->List UInt8
 | []=>[]
 | x::r=>t36 x++32::lh r
def EH(u:Nat)(y:u<18446744073709551616):(t36 u).length<=13:=by have:=(NQ y 12 0 rfl).2;unfold t36;rw[List.length_cons,nW];show cXf u 0 12+1<=13;omega
def DB:∀(l:List Nat) (x:Nat),lh (l++[x])=lh l++(t36 x++[32])
 | [],x=>by simp[lh]
 | y::l,x=>by simp[lh,DB l x]
def I9:∀{l:List Nat},(∀x∈l,x<18446744073709551616)->(lh l).length<=14*l.length
 | [],_=>Ac _
 | x::l,h=>by have h1:=EH x (h x (.head _));have h2:=I9 (l:=l) fun y u=>h y (.tail _ u);simp only[lh,List.length_append,List.length_cons];omega
def ZA(bk o c:Nat)(xs:List Nat)(w:World)(hgl:GlbAt Tryz.prog w)(hx:∀x∈xs,x<18446744073709551616)(hl:xs.length<=64)
  (hcells:∀(j:Nat) x,xs[j]? =Iz x->w.cell? ⟨bk,o+j,Ja⟩=Iz (.int .u64 (x:Int))) (hbk:bk<w.heap.size):
  Calls Tryz.prog 155 #[.slice (Iz ⟨bk,o,Ja⟩) xs.length c] w fun e w'=>e= .returned (.string ⟨(lh xs).toArray⟩)/\Below w.heap.size w w':=by
 have HC:=Any.hidJ hcells;have HX:=Any.hidJ hx;have HG:=Any.hidJ hgl;clear hcells hx hgl
 go_enter Tryz.func155,Tryz.ntmps155
 go_wp2_with fail
 go_loopw [8] (fun i wr=>∃k:Nat,k<=xs.length/\i= .int .i64 k/\Hid (Lib.IsBuilder 185 5 w.heap.size w.heap.size (Lib.byteCells (lh (xs.take k))) wr)/\Hid (Below w.heap.size w wr)) fun i _=>xs.length-(RowKit.intOf i).toNat
 case atStart=>exact⟨0,Nat.zero_le _,rfl,Any.hidJ (Lib.fresh_isBuilder 185 5 w),Any.hidJ ((Below.refl w.heap.size w).alloc (Ac _) _)⟩
 case round=>
  obtain⟨k,hk,rfl,HB,HW⟩:=hrel;by_cases hkn:k<xs.length
  ·obtain⟨x,hx⟩:∃x,xs[k]? =Iz x:=⟨xs[k],List.getElem?_eq_getElem hkn⟩;have hcx:wr.cell? ⟨bk,o+k,Ja⟩=Iz (.int .u64 (x:Int)):=by rw[HW.out.cell (p:=⟨bk,o+k,Ja⟩) hbk];exact HC.out k x hx
   have hx64:x<18446744073709551616:=HX.out x (List.mem_of_getElem? hx);have hBw:w.heap.size<=wr.heap.size:=HW.out.size;have hglr:GlbAt Tryz.prog wr:=UC HG.out HW.out;have hfu:=aGq x hx64 wr hglr;have hnext:Lib.byteCells (lh (xs.take k))++Lib.strCells ⟨(t36 x++[32]).toArray⟩=Lib.byteCells (lh (xs.take (k+1))):=by rw[List.take_add_one,hx,Option.toList_some,DB,Lib.strCells_eq,<-Lib.byteCells_append]
   have hlen:(Lib.byteCells (lh (xs.take k))).length+(Dd (t36 x++[32]).toArray).size<=140737488355328:=by
    have h1:=I9 (l:=xs.take k) fun y hy=>HX.out y (List.mem_of_mem_take hy);have h2:=EH x hx64;have h3:(xs.take k).length<=64:=by rw[List.length_take];omega
    have h4:(Dd (t36 x++[32]).toArray).size=(t36 x).length+1:=by simp[Fu]
    rw[Lib.byteCells_length,h4];omega
   have Hn:=Any.hidJ hnext;have Hl:=Any.hidJ hlen;clear hnext hlen hglr hx
   go_wp2_with (go_at_call 131;refine hfu.mono ?_;rintro e w2 ⟨rfl,hb2⟩)
   ·exfalso;rename_i hbig;have h2:=EH x hx64;have h4:(Dd (t36 x).toArray).size=(t36 x).length:=by simp[Fu]
    have h5:(Dd #[32]).size=1:=rfl;omega
   have hba:(Dd (t36 x).toArray++Dd #[32])=Dd (t36 x++[32]).toArray:=by apply Ec;show(Dd (t36 x).toArray++Dd #[32]).data=_;rw[ByteArray.data_append];simp
   rw[hba];refine(Any.Builder_WriteString {Lz with} extra w.heap.size w.heap.size _ _ w2 (BS HB.out hb2) Hl.out (Nat.le_trans hBw hb2.size)).mono ?_;rintro e w3 ⟨rfl,h3,hb3⟩;rw[Hn.out]at h3;have H3:=Any.hidJ (Or.inr h3:Lib.IsBuilder 185 5 w.heap.size w.heap.size _ w3);have Hb3:=Any.hidJ ((HW.out.trans (hb2.mono hBw)).trans hb3);clear h3 hb3 hb2
   go_wp2
   exact⟨⟨k+1,by omega,by go_num,H3,Hb3⟩,by simp[RowKit.intOf];omega⟩
  ·have hke:k=xs.length:=by omega
   subst hke;have hB':=HB.out;rw[List.take_of_length_le (Ac _)]at hB';have hBw:w.heap.size<=wr.heap.size:=HW.out.size
   go_wp2_with (go_at_call 109;refine(Any.Builder_String_any {Lz with} extra w.heap.size w.heap.size _ wr hB' hBw).mono ?_;rintro e w5 ⟨rfl,hb5⟩)
   go_ret
   exact⟨rfl,HW.out.trans hb5⟩
def DA(a:Option Addr)(c:Nat)(w:World):
  Calls Tryz.prog 155 #[.slice a 0 c] w fun e w'=>e= .returned (.string ⟨#[]⟩)/\Below w.heap.size w w':=by
 go_enter Tryz.func155,Tryz.ntmps155
 go_wp2_with fail
 go_loopw [8] (fun i wr=>i= .int .i64 0/\Hid (Lib.IsBuilder 185 5 w.heap.size w.heap.size (Lib.byteCells []) wr)/\Hid (Below w.heap.size w wr)) fun i _=>0
 case atStart=>exact⟨rfl,Any.hidJ (Lib.fresh_isBuilder 185 5 w),Any.hidJ ((Below.refl w.heap.size w).alloc (Ac _) _)⟩
 case round=>
  obtain⟨rfl,HB,HW⟩:=hrel;have hB':=HB.out;have hBw:w.heap.size<=wr.heap.size:=HW.out.size
  go_wp2_with (go_at_call 109;refine(Any.Builder_String_any {Lz with} extra w.heap.size w.heap.size _ wr hB' hBw).mono ?_;rintro e w5 ⟨rfl,hb5⟩)
  go_ret
  exact⟨rfl,HW.out.trans hb5⟩
def jf:List AV->Option (List Nat)
 | []=>Iz []
 | v::r=>match v,jf r with
  | .int .u64 x,Iz l=>if 0<=x/\x<18446744073709551616 then Iz (x.toNat::l)else Ja
  | _,_=>Ja
def xF{ρ:Emb} :∀{cs:List AV} {E:List Value} {B:List Nat},VRs ρ cs E->jf cs=Iz B->E=B.map (fun x:Nat=>Value.int .u64 x)/\∀x∈B,x<18446744073709551616
 | [],E,B,h,e=>by cases e;exact⟨by rw[h.ct];rfl,fun x I=>by cases I⟩
 | v::r,E,B,h,e=>by
  obtain⟨u,J,rfl,h1,h2⟩:=h.cons_inv;unfold jf at e;split at e
  ·rename_i x l hl;split at e
   ·rename_i K;cases e;obtain⟨L,M⟩:=xF h2 hl;refine⟨by rw[h1.bh,L,List.map_cons,Int.toNat_of_nonneg K.1],fun y G=>?_⟩;rcases List.mem_cons.1 G with rfl | G
    ·omega
    ·exact M y G
   ·cases e
  ·cases e
def keyF(args:List AV)(h:H):Option AV:=match args with
 | [.ah]=>Iz (.str ⟨#[]⟩)
 | [.slice _ sz b o n]=>if n=0 then Iz (.str ⟨#[]⟩)else if sz=1/\n<=64 then match bH h b o n with
  | some cs=>match jf cs with
   | some u=>Iz (.str ⟨(lh u).toArray⟩)
   | none=>Ja
  | none=>Ja
  else Ja
 | _=>Ja
def keyPrim:PrimOk Tryz.prog 155 (bN keyF):=by
 refine j6 ⟨Tryz.f155,Tryz.func155,by kernel_rfl,by kernel_rfl⟩ keyF fun args h v hv ρ Y w B hr=>?_;unfold keyF at hv;split at hv
 ·cases hv;obtain⟨u,J,rfl,K,y⟩:=B.cons_inv;rw[y.ct,show u= .slice Ja 0 0 from by cases K;rfl];refine(DA Ja 0 w).mono ?_;rintro e w' ⟨rfl,hb⟩;exact⟨_,rfl,.str _,hb⟩
 ·rename_i Z sz b o n;obtain⟨u,J,rfl,K,y⟩:=B.cons_inv;rw[y.ct];obtain⟨S,E,rfl,g1,g2,g3,T⟩:=K.bt;split at hv
  ·rename_i h0;subst h0;cases hv;refine(DA (Iz S) E w).mono ?_;rintro e w' ⟨rfl,hb⟩;exact⟨_,rfl,.str _,hb⟩
  ·rename_i h0;split at hv
   ·rename_i hc;split at hv
    ·rename_i cs L;split at hv
     ·rename_i Q M;cases hv;obtain⟨l,hl,rfl,R⟩:=T (by omega);obtain⟨ver,rw,all,hg,U,e⟩:=cW L;obtain⟨vs,k1,k2,V⟩:=(hr.obj b l _ hl hg).cells U e;obtain⟨G,O⟩:=xF k1 M;have hlen:Q.length=n:=by rw[<-k2,G,List.length_map]
      have I:=ZA l.blk (l.base+o) E Q w hr.gat O (by omega) (fun j x O=>V j (.int .u64 (x:Int)) (by rw[G,List.getElem?_map,O];rfl)) (hr.fb b l hl);rw[hlen]at I;refine I.mono ?_;rintro e w' ⟨rfl,hb⟩;exact⟨_,rfl,.str _,hb⟩
     ·cases hv
    ·cases hv
   ·cases hv
 ·cases hv
end Go.Am.Key

