/- Numbers to the base 36 (plain). -/
import Derived.Test.YtapbgleednkimaaGreatDoorPmC
set_option linter.all false
set_option maxRecDepth 10000
namespace Go.Am.ArK
def aGe:ByteArray:=⟨#[48,49,50,51,52,53,54,55,56,57,97,98,99,100,101,102,103,104,105,106,107,108,109,110,111,112,113,114,115,116,117,118,119,120,121,122]⟩
def sF(d:Nat):UInt8:=UInt8.ofNat (if d<10 then 48+d else 87+d)
def aD5(c:UInt8):Nat:=if c.toNat<58 then c.toNat-48 else c.toNat-87
def J9:((List.range 36).all fun d=>aGe[d]? ==some (sF d)&&aD5 (sF d)==d&& !(sF d==32))=true:=by decide+kernel
def aCI{d:Nat}(h:d<36):aGe[d]? =some (sF d):=by have:=List.all_eq_true.1 J9 d (List.mem_range.2 h);simp only[Bool.and_eq_true,beq_iff_eq]at this;exact this.1.1
def GT{d:Nat}(h:d<36):aD5 (sF d)=d:=by have:=List.all_eq_true.1 J9 d (List.mem_range.2 h);simp only[Bool.and_eq_true,beq_iff_eq]at this;exact this.1.2
def rF(u:Nat):Nat->List UInt8
 | 0=>[]
 | c+1=>sF (u / 36^c % 36)::rF u c
def nW(u:Nat):∀c,(rF u c).length=c
 | 0=>rfl
 | c+1=>by simp[rF,nW u c]
def cXf(u:Nat):Nat->Nat->Nat
 | c,0=>c
 | c,f+1=>if u / 36^c<36 then c else cXf u (c+1) f
def cX(u:Nat):Nat:=cXf u 0 12
def t36(u:Nat):List UInt8:=sF (u / 36^cX u)::rF u (cX u)
def NQ{u:Nat}(B:u<18446744073709551616):∀(f c:Nat),c+f=12->u / 36^cXf u c f<36/\cXf u c f<=12:=by
 intro f
 induction f with
 | zero=>
  intro c h;obtain rfl:c=12:=by omega
  have e:18446744073709551616<=(36:Nat)^12*36:=by decide
  refine⟨Nat.div_lt_of_lt_mul ?_,Nat.le_refl _⟩;show u<36^12*36;omega
 | succ f y=>
  intro c h;unfold cXf;split
  ·rename_i q;exact⟨q,by omega⟩
  ·exact y (c+1) (by omega)
def aGc(u c:Nat):u / 36^(c+1)=u / 36^c / 36:=by rw[Nat.pow_succ,Nat.div_div_eq_div_mul]
def SE:List UInt8->Nat
 | []=>0
 | c::l=>aD5 c*36^l.length+SE l
def GM(u:Nat):∀c,SE (rF u c)=u % 36^c
 | 0=>by simp[SE,rF,Nat.mod_one]
 | c+1=>by unfold rF SE;rw[GT (Nat.mod_lt _ (by decide)),GM u c,nW,Nat.pow_succ,Nat.mod_mul,Nat.mul_comm,Nat.add_comm]
def GL{u:Nat}(y:u<18446744073709551616):SE (t36 u)=u:=by have h:=(NQ y 12 0 rfl).1;unfold t36 SE;have h:u / 36^cX u<36:=h;rw[GT h,GM,nW,Nat.mul_comm];exact Nat.div_add_mod u _
def oo{u v:Nat}(y:u<18446744073709551616)(hv:v<18446744073709551616)(h:t36 u=t36 v):u=v:=by rw[<-GL y,<-GL hv,h]
def aEw(u:Nat):bL .quo (.int .u64 (u:Int)) (.int .u64 36)=some (.int .u64 (IntKind.u64.wrap ((u / 36:Nat):Int))):=by
 have:Int.tdiv (u:Int) 36=((u / 36:Nat):Int):=by rw[Int.tdiv_eq_ediv_of_nonneg (by omega)];rfl
 show some (PV.int .u64 (IntKind.u64.wrap (Int.tdiv (u:Int) 36)))=_;rw[this]
def V5{u:Nat}(h:u<18446744073709551616):IntKind.u64.wrap (u:Int)=(u:Int):=by rw[IntKind.wrap_u64];omega
abbrev wB(l:List UInt8):List PV:=l.map fun c=> .int .u8 ((c.toNat:Nat):Int)
def CC:∀l:List UInt8,eG (l.map fun c=> .int .u8 ((c.toNat:Nat):Int))=some l
 | []=>rfl
 | c::l=>by
  have h:=c.toNat_lt;have e:UInt8.ofNat c.toNat=c:=by simp
  simp only[List.map_cons,eG,CC l];rw[if_pos (by omega),Int.toNat_natCast,e]
def PM:∀l:List UInt8,fI (wB l)=some (l.map fun c=>AV.int .u8 ((c.toNat:Nat):Int))
 | []=>rfl
 | c::l=>by simp only[wB,List.map_cons,fI,bQ,PM l]
def aB1(l:List UInt8):kG (wB l)=some l:=by unfold kG;rw[PM];exact CC l
def HO(z x:PV)(l:List PV)(m:Nat):(List.replicate (m+1) z++l).set m x=List.replicate m z++x::l:=by rw[List.set_append_left _ _ (by simp),List.replicate_succ',List.set_append_right _ _ (by simp)];simp
def TM(n:Nat)(M:Mem)(s:ByteArray):cO n M (.str s)=some (.str s):=rfl
end Go.Am.ArK

