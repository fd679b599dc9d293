/- Functions that are given by contracts: what they answer without changing an object, or with one new slice, and what goes with it. -/
import Derived.Test.YtapbgleednkimaaGreatDoorAmKEnd
import Derived.Shelf.Strconv.Itoa3
import Derived.Shelf.Strconv.AtoiAll
import Derived.Shelf.Strings.Split
import Derived.Shelf.Strings.OnBuilder
import Derived.Lib.AppendIntMem
set_option linter.unusedVariables false
set_option linter.unusedSimpArgs false
namespace Go.Am
open Go.RowKit
theorem HR.below{P:Program}{ρ:Emb}{h:H}{w w':World}(hr:HR P ρ h w)(hb:Below w.heap.size w w'):HR P ρ h w'/\Stp ρ h w ρ h w':=by
 refine⟨⟨hr.gat.keep fun b l _ hlt=>hb.block b hlt,hr.goff,fun x l hx=>?_,fun x l o hx hg=>?_,hr.inj⟩,⟨Sub.refl ρ,fun _ _ h=> .inl h,fun _ _ h=> .inl h,hb.size,hb.os,hb.tape,hb.output,fun b hbb _=>hb.block b hbb⟩⟩
 ·have:=hr.bound x l hx;have:=hb.size;omega
 ·exact(hr.obj x l o hx hg).mono (Sub.refl ρ) (hb.block _ (hr.bound x l hx))
def OV(P:Program)(g:FuncId):Prop:=∃fn,P.funcs[g]? =some fn/\fn.body.isSome=true/\(fn.name== "runtime.NumGoroutine")=false
theorem jJ{P:Program}{g:FuncId}(hfn:OV P g)(F:List AV->H->Option AV)
  (hc:∀args h v,F args h=some v->∀ρ us w,VRs ρ args us->HR P ρ h w->Calls P g us.toArray w fun e w'=>∃u,e= .returned u/\VR ρ v u/\Below w.heap.size w w'):PrimOk P g (bE F) where
 ev args h v h' hr:=by
  unfold bE at hr;split at hr
  ·cases hr;exact Ev.refl h
  ·cases hr
 fn:=hfn
 call args h v h' hr ρ w us hv hh hf:=by
  unfold bE at hr;split at hr
  ·rename_i v0 h0;cases hr;refine callsIn_wide.2 ((hc args h v h0 ρ us w hv hh).mono ?_);rintro e w' ⟨u,rfl,q1,q2⟩;obtain⟨g1,g2⟩:=hh.below q2;exact⟨u,ρ,rfl,q1,g1,g2⟩
  ·cases hr
theorem aCo{P:Program}{g:FuncId}(hfn:OV P g)(F:List AV->H->Option (List AV))
  (hc:∀args h cs,F args h=some cs->cs.length<=maxLen/\∀ρ us w,VRs ρ args us->HR P ρ h w->Calls P g us.toArray w fun e w'=>∃(vs:List Value) (ty:TypeId),e= .returned (.slice (some ⟨w.heap.size,0,none⟩) cs.length cs.length)/\vs.length=cs.length/\(∀ρ',VRs ρ' cs vs)/\w'=w.alloc (.cells vs.toArray ty)):PrimOk P g (jQ F) where
 ev args h v h' hr:=by
  unfold jQ at hr;split at hr
  ·cases hr;exact Ev.alloc h _
  ·cases hr
 fn:=hfn
 call args h v h' hr ρ w us hv hh hf:=by
  unfold jQ at hr;split at hr
  ·rename_i cs h0;cases hr;obtain⟨hml,hc⟩:=hc args h cs h0;refine callsIn_wide.2 ((hc ρ us w hv hh).mono ?_);rintro e w' ⟨vs,ty,rfl,q1,q2,rfl⟩;have hn:=hf h.next (Nat.le_refl _) (by simp);have hor:OR P (upd ρ h.next ⟨w.heap.size,0,cs.length⟩) (w.alloc (.cells vs.toArray ty)) ⟨w.heap.size,0,cs.length⟩ (.cells 0 true cs):=by
    refine⟨vs.toArray,(0,0),ty,heap_alloc_new w _,by simpa using q1,by simpa using Nat.le_of_eq q1.symm,fun _=>rfl,fun i v hv=>?_⟩;have hi:i<vs.length:=by
     rw[q1];rcases Nat.lt_or_ge i cs.length with h1 | h1
     ·exact h1
     ·rw[List.getElem?_eq_none h1]at hv;cases hv
    exact⟨vs[i],by simp[hi],(q2 _).2 i v _ hv (List.getElem?_eq_getElem hi)⟩
   obtain⟨g1,g2⟩:=HR.alloc (o:= .cells vs.toArray ty) hh hn rfl hor;exact⟨_,_,rfl,.slice true 1 h.next 0 cs.length cs.length _ (Nat.le_refl _) hml (fun _=>rfl) (fun _=>⟨_,aV _ _ _,rfl,by simp⟩),g1,g2⟩
  ·cases hr
open Go.RowKit Go.Proofs Go.Shelf
def dig:Nat->Nat->List UInt8
 | 0,_=>[]
 | k+1,u=>if u<10 then [UInt8.ofNat (48+u)]else dig k (u / 10)++[UInt8.ofNat (48+u % 10)]
theorem E3:∀(k u:Nat),u<10^k->0<k->dig k u=Lib.decDigits u
 | 0,u,_,h=>absurd h (Nat.lt_irrefl 0)
 | k+1,u,h,_=>by
  rw[Lib.decDigits];unfold dig;by_cases hu:u<10
  ·rw[if_pos hu,dif_pos hu]
  ·rw[if_neg hu,dif_neg hu];have hk:0<k:=by
    rcases Nat.eq_zero_or_pos k with e | e
    ·subst e;simp at h;omega
    ·exact e
   rw[E3 k (u / 10) (by rw[Nat.pow_succ]at h;omega) hk]
def IV(n:Int):List UInt8:=if n<0 then 45::dig 20 n.natAbs else dig 20 n.toNat
theorem aAc{n:Int}(h0: -9223372036854775808<=n)(h1:n<=9223372036854775807):IV n=Lib.itoa n:=by unfold IV Lib.itoa;rw[E3 20 _ (by omega) (by decide),E3 20 _ (by omega) (by decide)]
def pow10N:List Nat:=[1,10,100,1000,10000,100000,1000000,10000000,100000000,1000000000,10000000000,100000000000,1000000000000,10000000000000,100000000000000,1000000000000000,10000000000000000,100000000000000000,1000000000000000000,10000000000000000000]
theorem B4{P:Program}{w:World}{b:Nat}(hn:P.globalNamed "internal/strconv.uint64pow10" =some b)(hb:gmem P b=some (.ints .u64 pow10N))(h:GlbAt P w):Lib.TabIs P w "internal/strconv.uint64pow10" .u64 Lib.pow10Tab:=by obtain⟨cs,e,fz,h1,h2⟩:=h b _ hb;have h2:cs.toList=pow10N.map fun n:Nat=>Value.int .u64 n:=h2;unfold Lib.TabIs World.var?;rw[hn,Option.bind_some,h1];show some cs=_;congr 1;apply Array.ext';rw[h2];rfl
def itoaF(args:List AV)(_:H):Option AV:=match args with
 | [.int .i64 n]=>if-9223372036854775808<=n/\n<=9223372036854775807 then some (.str ⟨(IV n).toArray⟩)else none
 | _=>none
theorem S2{P:Program}{R:Ren}{b:Nat}(hfn:OV P (R.f 171))(L:LaysM.n171 P R)(hn:P.globalNamed "internal/strconv.uint64pow10" =some b)(hb:gmem P b=some (.ints .u64 pow10N)):PrimOk P (R.f 171) (bE itoaF):=by
 refine jJ hfn itoaF fun args h v hv ρ us w hus hr=>?_;unfold itoaF at hv;split at hv
 ·rename_i n;split at hv
  ·rename_i hc;cases hv;obtain⟨u,us',rfl,hu,hus'⟩:=hus.cons_inv;rw[hus'.nil_inv,hu.int_inv];refine(Any.strconv_Itoa L n hc.1 hc.2 w (B4 hn hb hr.gat)).mono ?_;rintro e w' ⟨rfl,k,os,rfl⟩;exact⟨_,rfl,by rw[aAc hc.1 hc.2];exact .str _,Lib.below_grow _ w (Nat.le_refl _) k os⟩
  ·cases hv
 ·cases hv
def atoiF(args:List AV)(_:H):Option AV:=match args with
 | [.str s]=>if s.size<=9223372036854775806 then match Lib.atoiAll s.data.toList with
  | .ok v=>some (.tuple [.int .i64 v,.niliface])
  | _=>none
  else none
 | _=>none
theorem S3{P:Program}{R:Ren}(hfn:OV P (R.f 172))(L:LaysC.n172 P R):PrimOk P (R.f 172) (bE atoiF):=by
 refine jJ hfn atoiF fun args h v hv ρ us w hus hr=>?_;unfold atoiF at hv;split at hv
 ·rename_i s;split at hv
  ·rename_i hs;split at hv
   ·rename_i n hn;cases hv;obtain⟨u,us',rfl,hu,hus'⟩:=hus.cons_inv;rw[hus'.nil_inv,hu.str_inv];refine(Any.strconv_Atoi_ok L s hs n hn w).mono ?_;rintro e w' ⟨rfl,hw⟩;refine⟨_,rfl,VR.pair (.int _ _) .niliface,?_⟩;rcases hw with rfl | ⟨t,rfl⟩
    ·exact Below.refl _ _
    ·exact Lib.bytesWorld_below _ _ _
   ·cases hv
  ·cases hv
 ·cases hv
def Q8(b:UInt8):List (List UInt8)->List (List UInt8)
 | []=>[[b]]
 | x::r=>(b::x)::r
def l3(c:UInt8):List UInt8->List (List UInt8)
 | []=>[[]]
 | b::l=>if b=c then []::l3 c l else Q8 b (l3 c l)
theorem CL(c:UInt8):∀l:List UInt8,-1<=Lib.index l [c]
 | []=>by simp[Lib.index]
 | b::l=>by
  have:=CL c l;unfold Lib.index;split
  ·omega
  ·split<;>omega
theorem SM{b c:UInt8}(h:¬b=c)(l:List UInt8):∀k,Lib.splitK [c] 0 k (b::l)=Q8 b (Lib.splitK [c] 0 k l)
 | 0=>rfl
 | k+1=>by
  have hp:([c]:List UInt8).isPrefixOf (b::l)=false:=by simp[List.isPrefixOf];exact fun e=>h e.symm
  have hg:=CL c l;unfold Lib.splitK;rw[show Lib.index (b::l) [c]=if Lib.index l [c]== -1 then-1 else Lib.index l [c]+1 from by rw[Lib.index,hp];rfl];by_cases e:Lib.index l [c]= -1
  ·simp[e,Q8]
  ·have e1:(Lib.index l [c]== -1)=false:=by simpa using e
   rw[e1];have e2:(Lib.index l [c]+1== -1)=false:=by simp;omega
   simp only[Bool.false_eq_true,if_false,e2,Q8];have e3:(Lib.index l [c]+1).toNat=(Lib.index l [c]).toNat+1:=by omega
   rw[e3];simp[List.take_succ_cons,Nat.add_right_comm]
theorem SN(c:UInt8)(l:List UInt8)(k:Nat):Lib.splitK [c] 0 (k+1) (c::l)=[]::Lib.splitK [c] 0 k l:=by
 have hp:([c]:List UInt8).isPrefixOf (c::l)=true:=by simp[List.isPrefixOf]
 rw[Lib.splitK,show Lib.index (c::l) [c]=0 from by rw[Lib.index,hp];rfl];simp
theorem BM(c:UInt8):∀l:List UInt8,Lib.splitK [c] 0 (Lib.count l [c]) l=l3 c l
 | []=>by rw[Lib.count_one];rfl
 | b::l=>by
  have ih:=BM c l;rw[Lib.count_one]at ih ⊢;unfold l3;by_cases h:b=c
  ·subst h;rw[if_pos rfl,List.count_cons_self,SN,ih]
  ·rw[if_neg h,List.count_cons_of_ne h,SM h,ih]
def splitF(args:List AV)(_:H):Option (List AV):=match args with
 | [.str s,.str ⟨⟨[c]⟩⟩]=>if s.size<4294967281 then some ((l3 c s.data.toList).map fun l=> .str ⟨l.toArray⟩)else none
 | _=>none
theorem KV(s:ByteArray)(c:UInt8):Lib.splitB ⟨#[c]⟩ 0 (Lib.countB s ⟨#[c]⟩) s=(l3 c s.data.toList).map fun l=>⟨l.toArray⟩:=by
 have h:=Lib.splitB_data ⟨#[c]⟩ 0 (Lib.countB s ⟨#[c]⟩) s;have h2:Lib.splitK [c] 0 (Lib.countB s ⟨#[c]⟩) s.data.toList=l3 c s.data.toList:=BM c _;rw[show(⟨#[c]⟩:ByteArray).data.toList=[c]from rfl,h2]at h;rw[<-h,List.map_map];have:((fun l:List UInt8=>(⟨l.toArray⟩:ByteArray))∘fun x:ByteArray=>x.data.toList)=id:=by funext x;cases x;simp
 rw[this,List.map_id]
theorem GF{P:Program}{R:Ren}(L:Lays.n146 P R)(s:ByteArray)(c:UInt8)(w:World){r:Value}{w2:World}
  (c1:Calls P (R.f 221) #[.string s,.string ⟨#[c]⟩,.int .i64 (0:Nat),.int .i64 (-1)] w fun e w'=>e= .returned r/\w'=w2):
  Calls P (R.f 146) #[.string s,.string ⟨#[c]⟩] w fun e w'=>e= .returned r/\w'=w2:=by
 have t3:=L.t3;have t9:=L.t9;have t31:=L.t31;have a3:=L.a3;have a9:=L.a9;have a31:=L.a31;have z3:=L.z3;have v3:=L.v3;have z9:=L.z9;have v9:=L.v9;have z31:=L.z31;have v31:=L.v31;have e221:∀args w,(callFunc (R.f 221) args).run P w= .ok (.enter (R.f 221) args) w:=enters_of L.f221 (by kernel_rfl) rfl
 go_enter L.f146,Body.n146_ntmps R
 go_wp2_with (go_at_fn (R.f 221);refine c1.mono ?_;rintro e w' ⟨rfl,hw⟩;rw[hw])
 go_ret
 exact⟨rfl,rfl⟩
theorem K7{P:Program}{R:Ren}(hfn:OV P (R.f 146))(L:Lays.n146 P R)(hi9:(P.info? (R.t 9)).map (fun i=>(i.zero,i.size,i.bytes))=some (some (.string ByteArray.empty),1,16)):PrimOk P (R.f 146) (jQ splitF):=by
 refine aCo hfn splitF fun args h cs hv=>?_;unfold splitF at hv;split at hv
 ·rename_i s c;split at hv
  ·rename_i hs;cases hv;have hsp:=KV s c;have hlen:=Lib.splitB_all ⟨#[c]⟩ (Nat.le_refl 1) 0 _ s rfl;have hle:=Lib.countB_le ⟨#[c]⟩ (Nat.le_refl 1) s.size s (Nat.le_refl _);have hl2:(l3 c s.data.toList).length=Lib.countB s ⟨#[c]⟩+1:=by rw[<-hlen,hsp,List.length_map]
   refine⟨by rw[List.length_map,hl2];unfold maxLen;omega,fun ρ us w hus hr=>?_⟩;obtain⟨u,us',rfl,hu,hus'⟩:=hus.cons_inv;obtain⟨u2,us'',rfl,hu2,hus''⟩:=hus'.cons_inv;rw[hus''.nil_inv,hu.str_inv,hu2.str_inv];have c1:=Any.strings_genSplit_core {L with} hi9 s ⟨#[c]⟩ 0 (-1) (Lib.countB s ⟨#[c]⟩+1) w hs (Nat.le_refl 1) (Nat.zero_le _)
    (fun x cc hx=>by have:=Any.strings_Index_one {L with} x c (w.alloc (.cells cc (R.t 9)));rw[<-Lib.index_one]at this;exact this)
    (by have:=Any.strings_Count_one {L with} s c w;rw[show Lib.countByte s.data.toList c=Lib.countB s ⟨#[c]⟩from(Lib.count_one c _).symm]at this;exact this) (by decide) (by decide) (by rw[if_pos (by decide)];omega)
   rw[Nat.add_sub_cancel,hlen]at c1;rw[show Lib.cellsOf (Lib.splitB ⟨#[c]⟩ 0 (Lib.countB s ⟨#[c]⟩) s) (Lib.countB s ⟨#[c]⟩+1)=((Lib.splitB ⟨#[c]⟩ 0 (Lib.countB s ⟨#[c]⟩) s).map Value.string).toArray from by rw[<-hlen];exact Lib.cellsOf_full _]at c1;refine(GF L s c w c1).mono ?_;rintro e w' ⟨rfl,rfl⟩;refine⟨(Lib.splitB ⟨#[c]⟩ 0 (Lib.countB s ⟨#[c]⟩) s).map Value.string,R.t 9,?_,?_,fun ρ'=>?_,rfl⟩
   ·rw[List.length_map,hl2]
   ·rw[List.length_map,List.length_map,hlen,hl2]
   ·rw[hsp,List.map_map];exact⟨by simp,fun i v u h1 h2=>by
     rw[List.getElem?_map]at h1 h2
     cases hq:(l3 c s.data.toList)[i]? with
     | none=>rw[hq]at h1;cases h1
     | some q=>rw[hq]at h1 h2;cases h1;cases h2;exact .str _⟩
  ·cases hv
 ·cases hv
def dM:List AV->Option (List ByteArray)
 | []=>some []
 | .str s::r=>match dM r with
  | some l=>some (s::l)
  | none=>none
 | _=>none
theorem BJ{ρ:Emb} :∀{cs:List AV} {us:List Value} {xs:List ByteArray},VRs ρ cs us->dM cs=some xs->us=xs.map Value.string
 | [],us,xs,h,e=>by cases e;rw[h.nil_inv];rfl
 | .str s::r,us,xs,h,e=>by
  obtain⟨u,us',rfl,h1,h2⟩:=h.cons_inv;unfold dM at e;split at e
  ·rename_i l hl;cases e;rw[h1.str_inv,BJ h2 hl];rfl
  ·cases e
 | .junk::r,us,xs,h,e=>by simp[dM]at e
 | .bool _::r,us,xs,h,e=>by simp[dM]at e
 | .int _ _::r,us,xs,h,e=>by simp[dM]at e
 | .nilptr::r,us,xs,h,e=>by simp[dM]at e
 | .ptr _ _::r,us,xs,h,e=>by simp[dM]at e
 | .nilslice::r,us,xs,h,e=>by simp[dM]at e
 | .slice .. ::r,us,xs,h,e=>by simp[dM]at e
 | .nilmap::r,us,xs,h,e=>by simp[dM]at e
 | .map _::r,us,xs,h,e=>by simp[dM]at e
 | .func .. ::r,us,xs,h,e=>by simp[dM]at e
 | .nilfunc::r,us,xs,h,e=>by simp[dM]at e
 | .iface .. ::r,us,xs,h,e=>by simp[dM]at e
 | .niliface::r,us,xs,h,e=>by simp[dM]at e
 | .agg _::r,us,xs,h,e=>by simp[dM]at e
 | .tuple _::r,us,xs,h,e=>by simp[dM]at e
def joinF(args:List AV)(h:H):Option AV:=match args with
 | [.nilslice,.str _]=>some (.str ⟨#[]⟩)
 | [.slice _ sz b o n,.str sep]=>if n=0 then some (.str ⟨#[]⟩)else if sz=1 then match aZ h b o n with
  | some cs=>match dM cs with
   | some xs=>if n<=140737488355328/\(Lib.join (xs.map (·.data.toList)) sep.data.toList).length<=140737488355328 then some (.str ⟨(Lib.join (xs.map (·.data.toList)) sep.data.toList).toArray⟩)else none
   | none=>none
  | none=>none
  else none
 | _=>none
theorem S1{P:Program}{R:Ren}(hfn:OV P (R.f 156))(L:Lays.n156 P R)(X:Proofs.Builder.Extra P R):PrimOk P (R.f 156) (bE joinF):=by
 refine jJ hfn joinF fun args h v hv ρ us w hus hr=>?_;unfold joinF at hv;split at hv
 ·rename_i sep;cases hv;obtain⟨u,us',rfl,hu,hus'⟩:=hus.cons_inv;obtain⟨u2,us'',rfl,hu2,hus''⟩:=hus'.cons_inv;rw[hus''.nil_inv,hu2.str_inv,show u= .slice none 0 0 from by cases hu;rfl];refine(Any.strings_Join_none L X none 0 sep w).mono ?_;rintro e w' ⟨rfl,rfl⟩;exact⟨_,rfl,.str _,Below.refl _ _⟩
 ·rename_i fl sz b o n sep;obtain⟨u,us',rfl,hu,hus'⟩:=hus.cons_inv;obtain⟨u2,us'',rfl,hu2,hus''⟩:=hus'.cons_inv;rw[hus''.nil_inv,hu2.str_inv];obtain⟨ad,cap,rfl,g1,g2,g3,g4⟩:=hu.slice_inv;split at hv
  ·rename_i h0;subst h0;cases hv;refine(Any.strings_Join_none L X (some ad) cap sep w).mono ?_;rintro e w' ⟨rfl,rfl⟩;exact⟨_,rfl,.str _,Below.refl _ _⟩
  ·rename_i h0;split at hv
   ·split at hv
    ·rename_i cs hcs;split at hv
     ·rename_i xs hxs;split at hv
      ·rename_i hc;cases hv;obtain⟨l,hl,rfl,hlim⟩:=g4 (by omega);obtain⟨ver,rw,all,hg,hn,e⟩:=cJ hcs;obtain⟨vs,k1,k2,k3⟩:=(hr.obj b l _ hl hg).cells hn e;have hvs:=BJ k1 hxs;have hlen:xs.length=n:=by rw[<-k2,hvs,List.length_map]
       have key:=Any.strings_Join L X l.blk (l.base+o) cap xs sep w (fun j x hx=>by have:=k3 j (.string x) (by rw[hvs,List.getElem?_map,hx];rfl);exact this) (hr.bound b l hl) (by omega) (by omega) hc.2;rw[hlen]at key;refine key.mono ?_;rintro e w' ⟨rfl,hb⟩;exact⟨_,rfl,.str _,hb⟩
      ·cases hv
     ·cases hv
    ·cases hv
   ·cases hv
 ·cases hv
theorem I5{P:Program}{w:World}{b:Nat}(hb:gmem P b=some .err)(h:GlbAt P w):∃te pe,w.cell? ⟨b,0,none⟩=some (.iface te pe):=by
 obtain⟨cs,e,fz,h1,te,pe,h2⟩:=h b _ hb;refine⟨te,pe,?_⟩;have h3:cs[0]? =some (.iface te pe):=by rw[<-Array.getElem?_toList,h2];rfl
 simp only[World.cell?,h1,Option.isSome_none,Bool.false_eq_true,if_false];exact h3
def toErrF(t1 t2:TypeId)(args:List AV)(_:H):Option AV:=match args with
 | [.str _,.str s,.int .i64 _,.int .i64 _,.iface t (.int .i64 k)]=>if s.size<=281474976710656/\t=t1/\(k=1\/k=2)then some (.iface t2 .junk)else none
 | _=>none
theorem K6{P:Program}{R:Ren}(hfn:OV P (R.f 245))(L:LaysC.n245 P R)(h15:gmem P (R.g 15)=some .err)(h16:gmem P (R.g 16)=some .err):PrimOk P (R.f 245) (bE (toErrF (R.t 167) (R.t 168))):=by
 refine jJ hfn _ fun args h v hv ρ us w hus hr=>?_;unfold toErrF at hv;split at hv
 ·rename_i fn s base bits t k;split at hv
  ·rename_i hc;obtain⟨c1,rfl,c3⟩:=hc;cases hv;obtain⟨u1,us1,rfl,hu1,hus1⟩:=hus.cons_inv;obtain⟨u2,us2,rfl,hu2,hus2⟩:=hus1.cons_inv;obtain⟨u3,us3,rfl,hu3,hus3⟩:=hus2.cons_inv;obtain⟨u4,us4,rfl,hu4,hus4⟩:=hus3.cons_inv;obtain⟨u5,us5,rfl,hu5,hus5⟩:=hus4.cons_inv;obtain⟨x,rfl,hx⟩:∃x,u5= .iface (R.t 167) x/\VR ρ (.int .i64 k) x:=by cases hu5;exact⟨_,rfl,by assumption⟩
   rw[hus5.nil_inv,hu1.str_inv,hu2.str_inv,hu3.int_inv,hu4.int_inv,hx.int_inv];rcases c3 with rfl | rfl
   ·obtain⟨te,pe,hcell⟩:=I5 h16 hr.gat;refine(Any.strconv_toError_range L fn s base bits _ w c1 hcell (.inr ⟨te,pe,rfl⟩)).mono ?_;rintro e w' ⟨N,rfl,_,_,hb⟩;exact⟨_,rfl,.iface _ _ _ (.junk _),hb⟩
   ·obtain⟨te,pe,hcell⟩:=I5 h15 hr.gat;refine(Any.strconv_toError_syntax L fn s base bits _ w c1 hcell (.inr ⟨te,pe,rfl⟩)).mono ?_;rintro e w' ⟨N,rfl,_,_,hb⟩;exact⟨_,rfl,.iface _ _ _ (.junk _),hb⟩
  ·cases hv
 ·cases hv
end Go.Am

