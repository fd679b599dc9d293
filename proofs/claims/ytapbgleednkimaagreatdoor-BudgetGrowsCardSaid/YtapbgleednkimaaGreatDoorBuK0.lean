/- Numbers to the base 36 (plain). -/
import Derived.Test.YtapbgleednkimaaGreatDoorPmC
set_option linter.unusedVariables false
set_option linter.unusedSimpArgs false
set_option maxRecDepth 10000
namespace Go.Am.ArK
def aE9:ByteArray:=⟨#[48,49,50,51,52,53,54,55,56,57,97,98,99,100,101,102,103,104,105,106,107,108,109,110,111,112,113,114,115,116,117,118,119,120,121,122]⟩
def sB (d:Nat):UInt8:=UInt8.ofNat (if d<10 then 48+d else 87+d)
def aCU (c:UInt8):Nat:=if c.toNat<58 then c.toNat-48 else c.toNat-87
theorem IG:((List.range 36).all fun d=>aE9[d]? ==some (sB d)&&aCU (sB d)==d&& !(sB d==32))=true:=by decide+kernel
theorem aBy {d:Nat} (h:d<36):aE9[d]? =some (sB d):=by
 have:=List.all_eq_true.1 IG d (List.mem_range.2 h)
 simp only[Bool.and_eq_true,beq_iff_eq]at this
 exact this.1.1
theorem FL {d:Nat} (h:d<36):aCU (sB d)=d:=by
 have:=List.all_eq_true.1 IG d (List.mem_range.2 h)
 simp only[Bool.and_eq_true,beq_iff_eq]at this
 exact this.1.2
def rD (u:Nat):Nat->List UInt8
 | 0=>[]
 | c+1=>sB (u / 36^c % 36)::rD u c
theorem oB (u:Nat):∀c,(rD u c).length=c
 | 0=>rfl
 | c+1=>by simp[rD,oB u c]
def cXf (u:Nat):Nat->Nat->Nat
 | c,0=>c
 | c,f+1=>if u / 36^c<36 then c else cXf u (c+1) f
def cX (u:Nat):Nat:=cXf u 0 12
def t36 (u:Nat):List UInt8:=sB (u / 36^cX u)::rD u (cX u)
theorem L2 {u:Nat} (hu:u<18446744073709551616):∀(f c:Nat),c+f=12->u / 36^cXf u c f<36/\cXf u c f<=12:=by
 intro f
 induction f with
 | zero=>
  intro c h
  obtain rfl:c=12:=by omega
  have e:18446744073709551616<=(36:Nat)^12*36:=by decide
  refine⟨Nat.div_lt_of_lt_mul ?_,Nat.le_refl _⟩
  show u<36^12*36
  omega
 | succ f ih=>
  intro c h
  unfold cXf
  split
  ·rename_i q;exact⟨q,by omega⟩
  ·exact ih (c+1) (by omega)
theorem aE7 (u c:Nat):u / 36^(c+1)=u / 36^c / 36:=by rw[Nat.pow_succ,Nat.div_div_eq_div_mul]
def QD:List UInt8->Nat
 | []=>0
 | c::l=>aCU c*36^l.length+QD l
theorem FH (u:Nat):∀c,QD (rD u c)=u % 36^c
 | 0=>by simp[QD,rD,Nat.mod_one]
 | c+1=>by
  unfold rD QD
  rw[FL (Nat.mod_lt _ (by decide)),FH u c,oB,Nat.pow_succ,Nat.mod_mul,Nat.mul_comm,Nat.add_comm]
theorem FG {u:Nat} (hu:u<18446744073709551616):QD (t36 u)=u:=by
 have h:=(L2 hu 12 0 rfl).1
 unfold t36 QD
 have h:u / 36^cX u<36:=h
 rw[FL h,FH,oB,Nat.mul_comm]
 exact Nat.div_add_mod u _
theorem t36_inj {u v:Nat} (hu:u<18446744073709551616) (hv:v<18446744073709551616) (h:t36 u=t36 v):u=v:=by
 rw[<-FG hu,<-FG hv,h]
theorem aDb (u:Nat):dW .quo (.int .u64 (u:Int)) (.int .u64 36)=some (.int .u64 (IntKind.u64.wrap ((u / 36:Nat):Int))):=by
 have:Int.tdiv (u:Int) 36=((u / 36:Nat):Int):=by
  rw[Int.tdiv_eq_ediv_of_nonneg (by omega)];rfl
 show some (PV.int .u64 (IntKind.u64.wrap (Int.tdiv (u:Int) 36)))=_
 rw[this]
theorem TW {u:Nat} (h:u<18446744073709551616):IntKind.u64.wrap (u:Int)=(u:Int):=by
 rw[IntKind.wrap_u64];omega
abbrev vQ (l:List UInt8):List PV:=l.map fun c=> .int .u8 ((c.toNat:Nat):Int)
theorem BE:∀l:List UInt8,gM (l.map fun c=> .int .u8 ((c.toNat:Nat):Int))=some l
 | []=>rfl
 | c::l=>by
  have h:=c.toNat_lt
  have e:UInt8.ofNat c.toNat=c:=by simp
  simp only[List.map_cons,gM,BE l]
  rw[if_pos (by omega),Int.toNat_natCast,e]
theorem NS:∀l:List UInt8,hI (vQ l)=some (l.map fun c=>AV.int .u8 ((c.toNat:Nat):Int))
 | []=>rfl
 | c::l=>by simp only[vQ,List.map_cons,hI,dQ,NS l]
theorem aAC (l:List UInt8):mG (vQ l)=some l:=by
 unfold mG;rw[NS];exact BE l
theorem GA (z x:PV) (l:List PV) (m:Nat):(List.replicate (m+1) z++l).set m x=List.replicate m z++x::l:=by
 rw[List.set_append_left _ _ (by simp),List.replicate_succ',List.set_append_right _ _ (by simp)]
 simp
theorem RF (n:Nat) (M:Mem) (s:ByteArray):fT n M (.str s)=some (.str s):=rfl
end Go.Am.ArK

