/- FormatUint at base 10, at this seat. -/
import Derived.Test.YtapbgleednkimaaGreatDoorZLay1
import Derived.Test.YtapbgleednkimaaGreatDoorAmKEnd
import Derived.BigCall
import Derived.BigGuard
set_option linter.all false
set_option maxRecDepth 100000
open Array renaming replicate->Ez,size_replicate->Gq
namespace Go.Proofs.YtapbgleednkimaaGreatDoor.Fmt
open Go Go.Am Go.Shelf Go.RowKit Go.Sort Go.Lib Go.Proofs
set_option maxHeartbeats 6400000 in
def aF5(u:Nat)(hs:100<=u)(hu64:u<18446744073709551616)(w:World)(htab:Lib.TabIs Tryz.prog w "internal/strconv.uint64pow10" .u64 Lib.pow10Tab):
  Calls Tryz.prog 173 #[.int .u64 u,.int .i64 10] w fun e w'=>e= .returned (.string ⟨(Lib.decDigits u).toArray⟩)/\∃k os,w'=grow (w.drewN k) os:=by
 have hu1:1<=u:=by omega
 have hnd20:Lib.nDigits u<=20:=by have:=Lib.numDigits_eq u hu1 hu64;split at this<;>omega
 have hal:Tryz.prog.arrayLen 268=24:=by simp[Program.arrayLen,Tryz.underlying268]
 have hsl1:∀W,(Instr.sliceAt 268 (.pointer (some ⟨w.heap.size,0,none⟩)) none (some (.int .i64 (Lib.nDigits u:Int))) none).run Tryz.prog W= .ok (.slice (some ⟨w.heap.size,0,none⟩) (Lib.nDigits u) 24) W:=fun W=>by
  rw[run_sliceAt_array_h W 268 ⟨w.heap.size,0,none⟩ (by simp[Program.arrayLen,Program.elem,Tryz.underlying268]) .i64 (Lib.nDigits u:Int) (by omega) (by rw[hal];omega)]
  go_simp
 have hH0:Holds (fun(b:UInt8)=>Value.int .u8 (b.toNat:Int)) (w.alloc (.cells Lib.zeros24 268)) w.heap.size 0 (Ez (Lib.nDigits u) 0):=by exact Lib.holds_zero0 w 268 (Lib.nDigits u) (by omega)
 have hfmt:=Any.internal_strconv_formatBase10 {Lay.iq with} w.heap.size 0 24 u (Ez (Lib.nDigits u) 0) (w.alloc (.cells Lib.zeros24 268)) hH0 (by rw[Gq];exact Lib.lt_pow_nDigits u) hu64 (by rw[Gq];omega);rw[Gq]at hfmt;have HH0:=Lib.hid hH0;clear hH0 hal;have hnum:=fun W h=>Any.internal_strconv_numDigits {Lay.iq with} u hu1 hu64 W h
 go_enter Tryz.func173,Tryz.ntmps173
 go_wp2_with (first
  | (go_at_call 207;refine(hnum _ (Lib.tabIs_alloc htab _)).mono ?_;rintro e w' ⟨rfl,rfl⟩))
 go_at_call 208
 refine hfmt.mono ?_;rintro e w' ⟨rfl,k,v',dk,rfl,hF⟩;have hcv:(convert 30 9 (.slice (some ⟨w.heap.size,0,none⟩) (Lib.nDigits u) 24)).run Tryz.prog ((putRow (fun(b:UInt8)=>Value.int .u8 (b.toNat:Int)) (w.alloc (.cells Lib.zeros24 268)) w.heap.size 0 dk).drewN k)= .ok (.string ⟨(Lib.decDigits u).toArray⟩) ((putRow (fun(b:UInt8)=>Value.int .u8 (b.toNat:Int)) (w.alloc (.cells Lib.zeros24 268)) w.heap.size 0 dk).drewN k):=by have h:=run_convert_bytes_back (P:=Tryz.prog) ((putRow (fun(b:UInt8)=>Value.int .u8 (b.toNat:Int)) (w.alloc (.cells Lib.zeros24 268)) w.heap.size 0 dk).drewN k) 30 9 5 ⟨w.heap.size,0,none⟩ 24 (Lib.decDigits u) Tryz.underlying30 Tryz.underlying5 Tryz.underlying9 (fun j hj=>by rw[Lib.row_is_numeral hF j hj,Lib.add_plain,World.cell?_drewN];exact cell?_putRow (fun(b:UInt8)=>Value.int .u8 (b.toNat:Int)) _ w.heap.size 0 _ dk HH0.out (by rw[hF.size,Gq]) j (by rw[hF.size];rw[Lib.decDigits_length]at hj;exact hj));rw[Lib.decDigits_length]at h;exact h
 go_wp2
 go_ret
 obtain⟨os,eo⟩:=Lib.fin_at w (.cells Lib.zeros24 268) dk k 0;exact⟨rfl,k,os,eo⟩
def M9(u:Nat)(hs:u<100)(w:World):Calls Tryz.prog 173 #[.int .u64 u,.int .i64 10] w fun e w'=>e= .returned (.string ⟨(Lib.decDigits u).toArray⟩)/\w'=w:=by
 have h:=fun W=>Any.internal_strconv_small {Lay.iq with} u hs W
 go_enter Tryz.func173,Tryz.ntmps173
 go_wp2_with (go_at_call 206;refine(h _).mono ?_;rintro e w' ⟨rfl,rfl⟩)
 go_ret
 exact⟨rfl,rfl⟩
def fmt(u:Nat)(hu64:u<18446744073709551616)(w:World)(htab:Lib.TabIs Tryz.prog w "internal/strconv.uint64pow10" .u64 Lib.pow10Tab):
  Calls Tryz.prog 131 #[.int .u64 u,.int .i64 10] w fun e w'=>e= .returned (.string ⟨(Lib.decDigits u).toArray⟩)/\Below w.heap.size w w':=by
 have key:Calls Tryz.prog 173 #[.int .u64 u,.int .i64 10] w fun e w'=>e= .returned (.string ⟨(Lib.decDigits u).toArray⟩)/\Below w.heap.size w w':=by
  by_cases hs:u<100
  ·exact(M9 u hs w).mono fun e w' ⟨h1,h2⟩=>⟨h1,h2▸Below.refl _ _⟩
  ·exact(aF5 u (by omega) hu64 w htab).mono fun e w' ⟨h1,k,os,h2⟩=>⟨h1,h2▸Lib.below_grow _ w (Nat.le_refl _) k os⟩
 clear htab
 go_enter Tryz.func131,Tryz.ntmps131
 go_wp2_with (go_at_call 173;refine key.mono ?_;rintro e w' ⟨rfl,hb⟩)
 go_ret
 exact⟨rfl,hb⟩
def fmtF(args:List AV)(_:H):Option AV:=match args with
 | [.int .u64 n,.int .i64 b]=>if b=10/\0<=n/\n<18446744073709551616 then some (.str ⟨(dig 20 n.toNat).toArray⟩)else none
 | _=>none
def pc(hb:gmem Tryz.prog 4=some (.ints .u64 mw))(J:Tryz.prog.globalNamed "internal/strconv.uint64pow10" =some 4):PrimOk Tryz.prog 131 (bN fmtF):=by
 refine j6 ⟨Tryz.f131,Tryz.func131,by kernel_rfl,by kernel_rfl⟩ fmtF fun args h v hv ρ O w E hr=>?_;unfold fmtF at hv;split at hv
 ·rename_i n b;split at hv
  ·rename_i K;obtain⟨rfl,h0,h1⟩:=K;cases hv;obtain⟨Q,L,rfl,G,y⟩:=E.cons_inv;obtain⟨R,M,rfl,I,B⟩:=y.cons_inv;rw[B.ct,G.bh,I.bh];obtain⟨u,rfl⟩:=Int.eq_ofNat_of_zero_le h0;refine(fmt u (by omega) w (C2 J hb hr.gat)).mono ?_;rintro e w' ⟨rfl,hb⟩;refine⟨_,rfl,?_,hb⟩;rw[show((u:Int).toNat)=u from rfl,zW 20 u (by omega) (by decide)];exact .str _
  ·cases hv
 ·cases hv
end Go.Proofs.YtapbgleednkimaaGreatDoor.Fmt

