/- Numbers to the base 36 (plain). -/
import Derived.Test.YtapbgleednkimaaGreatDoorPmC
set_option linter.all false
set_option maxRecDepth 10000
namespace Go.Am.ArK
def aIY:ByteArray:=⟨#[48,49,50,51,52,53,54,55,56,57,97,98,99,100,101,102,103,104,105,106,107,108,109,110,111,112,113,114,115,116,117,118,119,120,121,122]⟩
def s8(d:Nat):UInt8:=UInt8.ofNat (if d<10 then 48+d else 87+d)
def aGl(c:UInt8):Nat:=if c.toNat<58 then c.toNat-48 else c.toNat-87
def L3:((List.range 36).all fun d=>aIY[d]? ==some (s8 d)&&aGl (s8 d)==d&& !(s8 d==32))=true:=by decide+kernel
def aEV{d:Nat}(h:d<36):aIY[d]? =some (s8 d):=by have:=List.all_eq_true.1 L3 d (List.mem_range.2 h);simp only[Bool.and_eq_true,beq_iff_eq]at this;exact this.1.1
def IP{d:Nat}(h:d<36):aGl (s8 d)=d:=by have:=List.all_eq_true.1 L3 d (List.mem_range.2 h);simp only[Bool.and_eq_true,beq_iff_eq]at this;exact this.1.2
def sA(u:Nat):Nat->List UInt8
 | 0=>[]
 | c+1=>s8 (u / 36^c % 36)::sA u c
def oC(u:Nat):∀c,(sA u c).length=c
 | 0=>rfl
 | c+1=>by simp[sA,oC u c]
def cXf(u:Nat):Nat->Nat->Nat
 | c,0=>c
 | c,f+1=>if u / 36^c<36 then c else cXf u (c+1) f
def cX(u:Nat):Nat:=cXf u 0 12
def t36(u:Nat):List UInt8:=s8 (u / 36^cX u)::sA u (cX u)
def QC{u:Nat}(B:u<18446744073709551616):∀(f c:Nat),c+f=12->u / 36^cXf u c f<36/\cXf u c f<=12:=by
 intro f
 induction f with
 | zero=>
  intro c h;obtain rfl:c=12:=by omega
  have e:18446744073709551616<=(36:Nat)^12*36:=by decide
  refine⟨Nat.div_lt_of_lt_mul ?_,Nat.le_refl _⟩;show u<36^12*36;omega
 | succ f y=>
  intro c h;unfold cXf;split
  ·rename_i q;exact⟨q,by omega⟩
  ·exact y (c+1) (by omega)
def aIW(u c:Nat):u / 36^(c+1)=u / 36^c / 36:=by rw[Nat.pow_succ,Nat.div_div_eq_div_mul]
def UR:List UInt8->Nat
 | []=>0
 | c::l=>aGl c*36^l.length+UR l
def II(u:Nat):∀c,UR (sA u c)=u % 36^c
 | 0=>by simp[UR,sA,Nat.mod_one]
 | c+1=>by unfold sA UR;rw[IP (Nat.mod_lt _ (by decide)),II u c,oC,Nat.pow_succ,Nat.mod_mul,Nat.mul_comm,Nat.add_comm]
def IH{u:Nat}(y:u<18446744073709551616):UR (t36 u)=u:=by have h:=(QC y 12 0 rfl).1;unfold t36 UR;have h:u / 36^cX u<36:=h;rw[IP h,II,oC,Nat.mul_comm];exact Nat.div_add_mod u _
def qk{u v:Nat}(y:u<18446744073709551616)(hv:v<18446744073709551616)(h:t36 u=t36 v):u=v:=by rw[<-IH y,<-IH hv,h]
def aGM(u:Nat):cD .quo (.int .u64 (u:Int)) (.int .u64 36)=some (.int .u64 (IntKind.u64.wrap ((u / 36:Nat):Int))):=by
 have:Int.tdiv (u:Int) 36=((u / 36:Nat):Int):=by rw[Int.tdiv_eq_ediv_of_nonneg (by omega)];rfl
 show some (PV.int .u64 (IntKind.u64.wrap (Int.tdiv (u:Int) 36)))=_;rw[this]
def YS{u:Nat}(h:u<18446744073709551616):IntKind.u64.wrap (u:Int)=(u:Int):=by rw[IntKind.wrap_u64];omega
abbrev w9(l:List UInt8):List PV:=l.map fun c=> .int .u8 ((c.toNat:Nat):Int)
def DM:∀l:List UInt8,eW (l.map fun c=> .int .u8 ((c.toNat:Nat):Int))=some l
 | []=>rfl
 | c::l=>by
  have h:=c.toNat_lt;have e:UInt8.ofNat c.toNat=c:=by simp
  simp only[List.map_cons,eW,DM l];rw[if_pos (by omega),Int.toNat_natCast,e]
def SJ:∀l:List UInt8,fT (w9 l)=some (l.map fun c=>AV.int .u8 ((c.toNat:Nat):Int))
 | []=>rfl
 | c::l=>by simp only[w9,List.map_cons,fT,cB,SJ l]
def aDR(l:List UInt8):mF (w9 l)=some l:=by unfold mF;rw[SJ];exact DM l
def JH(z x:PV)(l:List PV)(m:Nat):(List.replicate (m+1) z++l).set m x=List.replicate m z++x::l:=by rw[List.set_append_left _ _ (by simp),List.replicate_succ',List.set_append_right _ _ (by simp)];simp
def VZ(n:Nat)(M:Mem)(s:ByteArray):cP n M (.str s)=some (.str s):=rfl
end Go.Am.ArK

