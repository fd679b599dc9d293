/- Numbers to the base 36 (plain). -/
import Derived.Test.YtapbgleednkimaaGreatDoorPmC
set_option linter.unusedVariables false
set_option linter.unusedSimpArgs false
set_option maxRecDepth 10000
namespace Go.Am.ArK
def aHl:ByteArray:=⟨#[48,49,50,51,52,53,54,55,56,57,97,98,99,100,101,102,103,104,105,106,107,108,109,110,111,112,113,114,115,116,117,118,119,120,121,122]⟩
def rZ(d:Nat):UInt8:=UInt8.ofNat (if d<10 then 48+d else 87+d)
def aEL(c:UInt8):Nat:=if c.toNat<58 then c.toNat-48 else c.toNat-87
theorem JC:((List.range 36).all fun d=>aHl[d]? ==some (rZ d)&&aEL (rZ d)==d&& !(rZ d==32))=true:=by decide+kernel
theorem aDn{d:Nat}(h:d<36):aHl[d]? =some (rZ d):=by have:=List.all_eq_true.1 JC d (List.mem_range.2 h);simp only[Bool.and_eq_true,beq_iff_eq]at this;exact this.1.1
theorem F2{d:Nat}(h:d<36):aEL (rZ d)=d:=by have:=List.all_eq_true.1 JC d (List.mem_range.2 h);simp only[Bool.and_eq_true,beq_iff_eq]at this;exact this.1.2
def qW(u:Nat):Nat->List UInt8
 | 0=>[]
 | c+1=>rZ (u / 36^c % 36)::qW u c
theorem nF(u:Nat):∀c,(qW u c).length=c
 | 0=>rfl
 | c+1=>by simp[qW,nF u c]
def cXf(u:Nat):Nat->Nat->Nat
 | c,0=>c
 | c,f+1=>if u / 36^c<36 then c else cXf u (c+1) f
def cX(u:Nat):Nat:=cXf u 0 12
def t36(u:Nat):List UInt8:=rZ (u / 36^cX u)::qW u (cX u)
theorem NH{u:Nat}(hu:u<18446744073709551616):∀(f c:Nat),c+f=12->u / 36^cXf u c f<36/\cXf u c f<=12:=by
 intro f
 induction f with
 | zero=>
  intro c h;obtain rfl:c=12:=by omega
  have e:18446744073709551616<=(36:Nat)^12*36:=by decide
  refine⟨Nat.div_lt_of_lt_mul ?_,Nat.le_refl _⟩;show u<36^12*36;omega
 | succ f ih=>
  intro c h;unfold cXf;split
  ·rename_i q;exact⟨q,by omega⟩
  ·exact ih (c+1) (by omega)
theorem aHj(u c:Nat):u / 36^(c+1)=u / 36^c / 36:=by rw[Nat.pow_succ,Nat.div_div_eq_div_mul]
def R8:List UInt8->Nat
 | []=>0
 | c::l=>aEL c*36^l.length+R8 l
theorem FU(u:Nat):∀c,R8 (qW u c)=u % 36^c
 | 0=>by simp[R8,qW,Nat.mod_one]
 | c+1=>by unfold qW R8;rw[F2 (Nat.mod_lt _ (by decide)),FU u c,nF,Nat.pow_succ,Nat.mod_mul,Nat.mul_comm,Nat.add_comm]
theorem FT{u:Nat}(hu:u<18446744073709551616):R8 (t36 u)=u:=by have h:=(NH hu 12 0 rfl).1;unfold t36 R8;have h:u / 36^cX u<36:=h;rw[F2 h,FU,nF,Nat.mul_comm];exact Nat.div_add_mod u _
theorem t36_inj{u v:Nat}(hu:u<18446744073709551616)(hv:v<18446744073709551616)(h:t36 u=t36 v):u=v:=by rw[<-FT hu,<-FT hv,h]
theorem aFa(u:Nat):bX .quo (.int .u64 (u:Int)) (.int .u64 36)=some (.int .u64 (IntKind.u64.wrap ((u / 36:Nat):Int))):=by
 have:Int.tdiv (u:Int) 36=((u / 36:Nat):Int):=by rw[Int.tdiv_eq_ediv_of_nonneg (by omega)];rfl
 show some (PV.int .u64 (IntKind.u64.wrap (Int.tdiv (u:Int) 36)))=_;rw[this]
theorem WA{u:Nat}(h:u<18446744073709551616):IntKind.u64.wrap (u:Int)=(u:Int):=by rw[IntKind.wrap_u64];omega
abbrev vG(l:List UInt8):List PV:=l.map fun c=> .int .u8 ((c.toNat:Nat):Int)
theorem BK:∀l:List UInt8,eC (l.map fun c=> .int .u8 ((c.toNat:Nat):Int))=some l
 | []=>rfl
 | c::l=>by
  have h:=c.toNat_lt;have e:UInt8.ofNat c.toNat=c:=by simp
  simp only[List.map_cons,eC,BK l];rw[if_pos (by omega),Int.toNat_natCast,e]
theorem PB:∀l:List UInt8,eT (vG l)=some (l.map fun c=>AV.int .u8 ((c.toNat:Nat):Int))
 | []=>rfl
 | c::l=>by simp only[vG,List.map_cons,eT,bN,PB l]
theorem aCn(l:List UInt8):kA (vG l)=some l:=by unfold kA;rw[PB];exact BK l
theorem GU(z x:PV)(l:List PV)(m:Nat):(List.replicate (m+1) z++l).set m x=List.replicate m z++x::l:=by rw[List.set_append_left _ _ (by simp),List.replicate_succ',List.set_append_right _ _ (by simp)];simp
theorem TD(n:Nat)(M:Mem)(s:ByteArray):dD n M (.str s)=some (.str s):=rfl
end Go.Am.ArK

