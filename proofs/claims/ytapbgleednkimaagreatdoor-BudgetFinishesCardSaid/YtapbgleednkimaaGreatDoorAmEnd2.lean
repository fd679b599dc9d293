/- From arguments that can be read as data to arguments of the abstract machine: its heap holds an object that is never written for each slice, and what goes with it. -/
import Derived.Test.YtapbgleednkimaaGreatDoorAmKEnd
import Derived.ChangeArms
import Derived.OpenShut
import Derived.Carry
import Derived.WideKeyArgs
set_option linter.unusedVariables false
set_option linter.unusedSimpArgs false
namespace Go.Am
open Go.ChangeShapes Go.WideShapes Go.ChangeAt Go.RowKit
inductive Ty where
 | int (k:IntKind)
 | bool
 | str
 | slice (e:Ty)
 | unit
 | pair (a b:Ty)
 deriving Inhabited
def Ty.size:Ty->Nat
 | .unit=>0
 | .pair a b=>a.size+b.size
 | _=>1
def Sh:Ty->List AV->H->Prop
 | .int k,cs,_=>∃n,cs=[.int k n]/\k.min<=n/\n<=k.max
 | .bool,cs,_=>∃b,cs=[.bool b]
 | .str,cs,_=>∃s:ByteArray,cs=[.str s]/\s.size<=maxLen
 | .slice e,cs,h=>cs=[.nilslice]\/∃b n cells,cs=[.slice false e.size b 0 n]/\n<=maxLen/\h.get b=some (.cells 0 false cells)/\cells.length=n*e.size/\
   ∀i,i<n->Sh e ((cells.drop (i*e.size)).take e.size) h
 | .unit,cs,_=>cs=[]
 | .pair a b,cs,h=>∃c1 c2,cs=c1++c2/\Sh a c1 h/\Sh b c2 h
structure Grows (h h':H):Prop where
 next:h.next<=h'.next
 get:∀x o,h.get x=some o->h'.get x=some o
theorem Grows.refl(h:H):Grows h h:=⟨Nat.le_refl _,fun _ _ h=>h⟩
theorem Grows.trans{a b c:H}(p:Grows a b)(q:Grows b c):Grows a c:=⟨Nat.le_trans p.next q.next,fun x o h=>q.get x o (p.get x o h)⟩
theorem Grows.alloc(h:H)(o:AObj):Grows h (h.alloc o):=⟨by simp,fun x o' hg=>H.get_alloc_old hg⟩
theorem Sh.mono{h h':H}(g:Grows h h'):∀{T:Ty} {cs:List AV},Sh T cs h->Sh T cs h'
 | .int k,cs,hs=>hs
 | .bool,cs,hs=>hs
 | .str,cs,hs=>hs
 | .unit,cs,hs=>hs
 | .slice e,cs,hs=>by
  rcases hs with hs | ⟨b,n,cells,h1,h2,h3,h4,h5⟩
  ·exact .inl hs
  ·exact .inr ⟨b,n,cells,h1,h2,g.get _ _ h3,h4,fun i hi=>Sh.mono g (h5 i hi)⟩
 | .pair a b,cs,hs=>by obtain⟨c1,c2,e,h1,h2⟩:=hs;exact⟨c1,c2,e,Sh.mono g h1,Sh.mono g h2⟩
theorem Sh.length{h:H} :∀{T:Ty} {cs:List AV},Sh T cs h->cs.length=T.size
 | .int k,cs,hs=>by obtain⟨n,rfl,_⟩:=hs;rfl
 | .bool,cs,hs=>by obtain⟨n,rfl⟩:=hs;rfl
 | .str,cs,hs=>by obtain⟨n,rfl,_⟩:=hs;rfl
 | .unit,cs,hs=>by have hs:cs=[]:=hs;subst hs;rfl
 | .slice e,cs,hs=>by rcases hs with rfl | ⟨b,n,cells,rfl,_⟩<;>rfl
 | .pair a b,cs,hs=>by obtain⟨c1,c2,rfl,h1,h2⟩:=hs;simp[Ty.size,Sh.length h1,Sh.length h2]
structure Laid (P:Program) (ρ:Emb) (h:H) (w:World):Prop where
 hr:HR P ρ h w
 dom:∀x,h.next<=x->ρ x=none
 ro:∀x o,h.get x=some o->o.rwlive=false
section
variable {P:Program}
theorem Laid.empty(w:World)(hg:GlbAt P w):Laid P (fun _=>none) H.empty w:=
 ⟨⟨hg,fun _ _ _ _ _ _ h=>by(cases h),fun _ _ h=>by(cases h),fun _ _ _ h=>by(cases h),fun _ _ _ _ _ _ h=>by(cases h)⟩,fun _ _=>rfl,fun x o h=>by have:=H.lt_of_get h;exact absurd this (Nat.not_lt_zero _)⟩
theorem Laid.add{ρ:Emb}{h:H}{w:World}(hl:Laid P ρ h w){cells:List AV}{l:Loc}(hb:l.blk<w.heap.size)(ho:OR P ρ w l (.cells 0 false cells)):
  Laid P (upd ρ h.next l) (h.alloc (.cells 0 false cells)) w/\Sub ρ (upd ρ h.next l):=by
 have hs:=gD (l:=l) (hl.dom _ (Nat.le_refl _));refine⟨⟨⟨hl.hr.gat,fun b l _ x lx ox hx hg hrw=>?_,fun x lx hx=>?_,fun x lx ox hx hg=>?_,fun x y lx ly ox oy hx hy hgx hgy hrx hly hne=>?_⟩,fun x hx=>?_,fun x o hg=>?_⟩,hs⟩
 ·exfalso;by_cases e:x=h.next
  ·subst e;rw[H.get_alloc_new]at hg;cases hg;cases hrw
  ·rw[H.get_alloc,if_neg e]at hg;rw[hl.ro x ox hg]at hrw;cases hrw
 ·by_cases e:x=h.next
  ·subst e;rw[aV]at hx;cases hx;exact hb
  ·rw[bJ e]at hx;exact hl.hr.bound x lx hx
 ·by_cases e:x=h.next
  ·subst e;rw[aV]at hx;cases hx;rw[H.get_alloc_new]at hg;cases hg;exact ho.mono hs rfl
  ·rw[bJ e]at hx;rw[H.get_alloc,if_neg e]at hg;exact(hl.hr.obj x lx ox hx hg).mono hs rfl
 ·exfalso;by_cases e:x=h.next
  ·subst e;rw[H.get_alloc_new]at hgx;cases hgx;cases hrx
  ·rw[H.get_alloc,if_neg e]at hgx;rw[hl.ro x ox hgx]at hrx;cases hrx
 ·have hx:h.next+1<=x:=hx;rw[bJ (by omega)];exact hl.dom x (by omega)
 ·by_cases e:x=h.next
  ·subst e;rw[H.get_alloc_new]at hg;cases hg;rfl
  ·rw[H.get_alloc,if_neg e]at hg;exact hl.ro x o hg
theorem Laid.add0{ρ:Emb}{h:H}{w:World}(hl:Laid P ρ h w)(cells:List AV):Laid P ρ (h.alloc (.cells 0 false cells)) w:=by
 have hn:=hl.dom _ (Nat.le_refl _);refine⟨⟨hl.hr.gat,fun b l _ x lx ox hx hg hrw=>?_,hl.hr.bound,fun x lx ox hx hg=>?_,fun x y lx ly ox oy hx hy hgx hgy hrx hly hne=>?_⟩,fun x hx=>?_,fun x o hg=>?_⟩
 ·exfalso;by_cases e:x=h.next
  ·subst e;rw[hn]at hx;cases hx
  ·rw[H.get_alloc,if_neg e]at hg;rw[hl.ro x ox hg]at hrw;cases hrw
 ·by_cases e:x=h.next
  ·subst e;rw[hn]at hx;cases hx
  ·rw[H.get_alloc,if_neg e]at hg;exact hl.hr.obj x lx ox hx hg
 ·exfalso;by_cases e:x=h.next
  ·subst e;rw[hn]at hx;cases hx
  ·rw[H.get_alloc,if_neg e]at hgx;rw[hl.ro x ox hgx]at hrx;cases hrx
 ·have hx:h.next+1<=x:=hx;exact hl.dom x (by omega)
 ·by_cases e:x=h.next
  ·subst e;rw[H.get_alloc_new]at hg;cases hg;rfl
  ·rw[H.get_alloc,if_neg e]at hg;exact hl.ro x o hg
def rV(P:Program)(f:TypeId->Option Ty):Nat->List Field->Option Ty
 | _,[]=>some .unit
 | off,x::xs=>match f x.type,rV P f (x.offset+P.cellsOf x.type) xs with
  | some a,some b=>if x.offset=off/\a.size=P.cellsOf x.type then some (.pair a b)else none
  | _,_=>none
def DE(a:Ty):Nat->Ty
 | 0=> .unit
 | n+1=> .pair a (DE a n)
def F3(P:Program):Nat->TypeId->Option Ty
 | 0,_=>none
 | m+1,t=>match P.underlying t with
  | some (.int k)=>some (.int k)
  | some .bool=>some .bool
  | some .string=>some .str
  | some (.slice e)=>match F3 P m e with
   | some T=>if T.size=P.cellsOf e/\0<T.size then some (.slice T)else none
   | none=>none
  | some (.struct fs)=>match rV P (F3 P m) 0 fs.toList with
   | some T=>if T.size=P.cellsOf t then some T else none
   | none=>none
  | some (.array n e)=>match F3 P m e with
   | some T=>if T.size=P.cellsOf e/\n*T.size=P.cellsOf t then some (DE T n)else none
   | none=>none
  | _=>none
def Got(P:Program)(w:World)(T:Ty)(cs:List Value):Prop:=∀(ρ:Emb) (h:H),Laid P ρ h w->∃ρ' h' avs,Laid P ρ' h' w/\Sub ρ ρ'/\Grows h h'/\VRs ρ' avs cs/\Sh T avs h'
theorem Got.pair{w:World}{A B:Ty}{c1 c2:List Value}(g1:Got P w A c1)(g2:Got P w B c2):Got P w (.pair A B) (c1++c2):=by intro ρ h hl;obtain⟨ρ1,h1,a1,l1,s1,w1,v1,q1⟩:=g1 ρ h hl;obtain⟨ρ2,h2,a2,l2,s2,w2,v2,q2⟩:=g2 ρ1 h1 l1;exact⟨ρ2,h2,a1++a2,l2,s1.trans s2,w1.trans w2,(v1.mono s2).append v2,a1,a2,rfl,q1.mono w2,q2⟩
theorem Got.unit(w:World):Got P w .unit []:=fun ρ h hl=>⟨ρ,h,[],hl,Sub.refl _,Grows.refl _,VRs.nil _,rfl⟩
theorem IX{w:World}{T:Ty} :∀(css:List (List Value)),(∀cs∈css,Got P w T cs)->∀(ρ:Emb) (h:H),Laid P ρ h w->
  ∃ρ' h' cells,Laid P ρ' h' w/\Sub ρ ρ'/\Grows h h'/\VRs ρ' cells css.flatten/\cells.length=css.length*T.size/\∀i,i<css.length->Sh T ((cells.drop (i*T.size)).take T.size) h'
 | [],_,ρ,h,hl=>⟨ρ,h,[],hl,Sub.refl _,Grows.refl _,VRs.nil _,by simp,fun i hi=>by simp at hi⟩
 | cs::css,hg,ρ,h,hl=>by
  obtain⟨ρ1,h1,a1,l1,s1,w1,v1,q1⟩:=hg cs (by simp) ρ h hl;obtain⟨ρ2,h2,cells,l2,s2,w2,v2,e2,q2⟩:=IX css (fun c hc=>hg c (by simp[hc])) ρ1 h1 l1;have hlen:=q1.length;refine⟨ρ2,h2,a1++cells,l2,s1.trans s2,w1.trans w2,by simpa using (v1.mono s2).append v2,by simp[hlen,e2,Nat.succ_mul];omega,fun i hi=>?_⟩
  cases i with
  | zero=>
   have:((a1++cells).drop (0*T.size)).take T.size=a1:=by rw[Nat.zero_mul,List.drop_zero,<-hlen,List.take_left]
   rw[this];exact q1.mono w2
  | succ i=>
   have:(a1++cells).drop ((i+1)*T.size)=cells.drop (i*T.size):=by rw[Nat.succ_mul,Nat.add_comm,<-hlen,List.drop_append];simp
   rw[this];exact q2 i (by simpa using hi)
theorem cells?_spec{w:World}{a:Addr}{n:Nat}{cs:List Value}(h:w.cells? 0 a n=some cs):cs.length=n/\∀i,i<n->w.cell? (a.add i)=cs[i]? :=by unfold World.cells? at h;rw[if_pos (Nat.zero_le _)]at h;exact⟨by simpa using mapM_some_length h,fun i hi=>mapM_some_get h i i (by simp[hi])⟩
theorem cell?_spec{w:World}{a:Addr}{v:Value}(h:w.cell? a=some v):∃c e f,w.heap[a.block]? =some (.cells c e f)/\a.spot=none/\c[a.off]? =some v:=by
 unfold World.cell? at h;split at h
 ·rename_i c e f hc;split at h
  ·cases h
  ·rename_i hs;refine⟨c,e,f,hc,?_,h⟩
   cases hsp:a.spot with
   | none=>rfl
   | some x=>rw[hsp]at hs;simp at hs
 ·cases h
theorem oY(a:Addr)(n:Nat):(a.add n).block=a.block:=by unfold Addr.add;split<;>rfl
theorem RL(a:Addr)(n:Nat):(a.add n).off=a.off+n:=by unfold Addr.add;split<;>simp_all
theorem pY{w:World}{a:Addr}{i sz:Nat}{cs:List Value}(h:w.cells? 0 (a.add (i*sz)) sz=some cs)(hz:0<sz):
  ∃c e f,w.heap[a.block]? =some (.cells c e f)/\(i=0->a.spot=none)/\cs.length=sz/\a.off+i*sz+sz<=c.size/\∀j,j<sz->c[a.off+i*sz+j]? =cs[j]? :=by
 obtain⟨h1,h2⟩:=cells?_spec h;have h0:∃v,cs[0]? =some v:=by
  cases cs with
  | nil=>simp at h1;omega
  | cons v l=>exact⟨v,rfl⟩
 obtain⟨v0,hv0⟩:=h0;obtain⟨c,e,f,h3,h4,h5⟩:=cell?_spec ((h2 0 hz).trans hv0);rw[oY,oY]at h3;have key:∀j,j<sz->c[a.off+i*sz+j]? =cs[j]? :=by intro j hj;have hjv:∃v,cs[j]? =some v:=⟨cs[j]'(by omega),by simp[List.getElem?_eq_getElem (h1▸hj)]⟩;obtain⟨v,hv⟩:=hjv;obtain⟨c',e',f',h3',_,h5'⟩:=cell?_spec ((h2 j hj).trans hv);rw[oY,oY,h3]at h3';cases h3';rw[RL,RL]at h5';rw[h5',hv]
 refine⟨c,e,f,h3,?_,h1,?_,key⟩
 ·intro hi;subst hi;have:((a.add (0*sz)).add 0)=a:=by simp[Addr.add]
  rw[this]at h4;exact h4
 ·have hl:=key (sz-1) (by omega);have hjv:cs[sz-1]? =some (cs[sz-1]'(by omega)):=List.getElem?_eq_getElem (by omega);rw[hjv]at hl;have:=(Array.getElem?_eq_some_iff.1 hl).1;omega
section
variable {H0:Type} {enc:TypeId×Value->H0} {w:World}
theorem yL{m:Nat}{n:Nat}(ih:∀(t:TypeId) (T:Ty),F3 P m t=some T->∀(cs:List Value) (x:DataW H0×List MemPlace),DataW.trod enc P w 0 (fun _=>true) true n t cs=some x->Got P w T cs){cs:List Value} :
  ∀(fs:List Field) (off:Nat) (T:Ty),rV P (F3 P m) off fs=some T->off+T.size=cs.length->(∀f∈fs,∃x,DataW.trod enc P w 0 (fun _=>true) true n f.type ((cs.drop f.offset).take (P.cellsOf f.type))=some x)->Got P w T (cs.drop off)
 | [],off,T,hT,hl,_=>by
  cases hT;have:cs.drop off=[]:=by simp[Ty.size]at hl;rw[hl];exact List.drop_length
  rw[this];exact Got.unit w
 | f::fs,off,T,hT,hl,hx=>by
  unfold rV at hT;split at hT
  ·rename_i A B hA hB;split at hT
   ·rename_i hc;cases hT;obtain⟨h1,h2⟩:=hc;obtain⟨x,hx0⟩:=hx f (by simp);have g1:=ih _ _ hA _ _ hx0;simp only[Ty.size]at hl;have g2:=yL ih fs _ _ hB (by omega) (fun f hf=>hx f (by simp[hf]));have:=g1.pair g2;rw[h1]at this;have e:(cs.drop off).take (P.cellsOf f.type)++cs.drop (off+P.cellsOf f.type)=cs.drop off:=by
     rw[<-List.drop_drop,List.take_append_drop]
    rw[e]at this;exact this
   ·cases hT
  ·cases hT
theorem CM{T:Ty}{cs:List Value} :∀(k off:Nat),off*T.size+k*T.size=cs.length->(∀i,off<=i->i<off+k->Got P w T ((cs.drop (i*T.size)).take T.size))->Got P w (DE T k) (cs.drop (off*T.size))
 | 0,off,hl,_=>by
  have:cs.drop (off*T.size)=[]:=by rw[show off*T.size=cs.length by omega];exact List.drop_length
  rw[this];exact Got.unit w
 | k+1,off,hl,hg=>by
  have g1:=hg off (Nat.le_refl _) (by omega);have g2:=CM (T:=T) (cs:=cs) k (off+1) (by rw[Nat.succ_mul]at hl ⊢;omega) (fun i h1 h2=>hg i (by omega) (by omega));have:=g1.pair g2;have e:(cs.drop (off*T.size)).take T.size++cs.drop ((off+1)*T.size)=cs.drop (off*T.size):=by
   rw[Nat.succ_mul,<-List.drop_drop,List.take_append_drop]
  rw[e]at this;exact this
theorem rT:∀(m:Nat) (t:TypeId) (T:Ty),F3 P m t=some T->∀(n:Nat) (cs:List Value) (x:DataW H0×List MemPlace),DataW.trod enc P w 0 (fun _=>true) true n t cs=some x->Got P w T cs
 | 0,t,T,hT,_,_,_,_=>by cases hT
 | m+1,t,T,hT,n,cs,x,hx=>by
  unfold F3 at hT;split at hT
  ·rename_i k hk;cases hT;obtain⟨z,rfl,_,hw⟩:=DataW.trod_int hk hx;intro ρ h hl;simp only[Lit.wf,Bool.and_eq_true,decide_eq_true_eq]at hw;exact⟨ρ,h,[.int k z],hl,Sub.refl _,Grows.refl _,.cons (.int _ _) (.nil _),z,rfl,hw.1,hw.2⟩
  ·rename_i hk;cases hT;obtain⟨z,rfl,_⟩:=DataW.trod_bool hk hx;intro ρ h hl;exact⟨ρ,h,[.bool z],hl,Sub.refl _,Grows.refl _,.cons (.bool _) (.nil _),z,rfl⟩
  ·rename_i hk;cases hT;obtain⟨z,rfl,_,hz⟩:=DataW.trod_string hk hx;intro ρ h hl;exact⟨ρ,h,[.str z],hl,Sub.refl _,Grows.refl _,.cons (.str _) (.nil _),z,rfl,hz⟩
  ·rename_i e hk;split at hT
   ·rename_i E hE;split at hT
    ·rename_i hsz;cases hT;obtain⟨hsz,hpos⟩:=hsz;rcases DataW.trod_slice hk hx with⟨rfl,_⟩ | ⟨a,len,cap,elems,rest,n',rfl,rfl,_,_,hlc,hcm,hel,hle,hre,_⟩
     ·intro ρ h hl;exact⟨ρ,h,[.nilslice],hl,Sub.refl _,Grows.refl _,.cons .nilslice (.nil _),.inl rfl⟩
     ·obtain⟨hrl,hre⟩:=hre rfl;rw[<-hsz]at hle hre
      --the cells of each element,up to the capacity
      have hcell:∀i,i<cap->∃cs y,w.cells? 0 (a.add (i*E.size)) E.size=some cs/\DataW.trod enc P w 0 (fun _=>true) true n' e cs=some y:=by
       intro i hi;rcases Nat.lt_or_ge i len with hi' | hi'
       ·have h1:=hle i hi';have h2:elems[i]? =some (elems[i]'(by omega)):=List.getElem?_eq_getElem (by omega);rw[h2]at h1;simp only[Option.bind_eq_some_iff]at h1;obtain⟨cs,h3,h4⟩:=h1;exact⟨cs,_,h3,h4⟩
       ·have h1:=hre (i-len) (by omega);have h2:rest[i-len]? =some (rest[i-len]'(by omega)):=List.getElem?_eq_getElem (by omega);rw[h2]at h1;simp only[Option.bind_eq_some_iff]at h1;obtain⟨cs,h3,h4⟩:=h1;rw[show len+(i-len)=i by omega]at h3;exact⟨cs,_,h3,h4⟩
      intro ρ h hl
      let get (i:Nat):List Value:=(w.cells? 0 (a.add (i*E.size)) E.size).getD []
      have hgot:∀cs∈(List.range len).map get,Got P w E cs:=by
       intro cs hcs;simp only[List.mem_map,List.mem_range]at hcs;obtain⟨i,hi,rfl⟩:=hcs;obtain⟨cs,y,h1,h2⟩:=hcell i (by omega);have:get i=cs:=by simp[get,h1]
       rw[this];exact rT m e E hE _ _ _ h2
      obtain⟨ρ1,h1,cells,l1,s1,w1,v1,e1,q1⟩:=IX _ hgot ρ h hl;simp only[List.length_map,List.length_range]at e1 q1;rcases Nat.eq_zero_or_pos cap with hc0 | hc0
      ·subst hc0;have hl0:len=0:=by omega
       subst hl0;refine⟨ρ1,h1.alloc (.cells 0 false cells),[.slice false E.size h1.next 0 0],l1.add0 cells,s1,w1.trans (Grows.alloc _ _),.cons (.slice _ _ _ _ _ _ _ (Nat.le_refl _) hcm (by simp) (fun h=>by omega)) (.nil _),.inr ⟨_,0,cells,rfl,Nat.zero_le _,H.get_alloc_new _ _,by simpa using e1,fun i hi=>by omega⟩⟩
      ·obtain⟨c0,y0,hc1,_⟩:=hcell 0 hc0;obtain⟨c,el,fz,hb,hsp,_,hbd0,_⟩:=pY hc1 hpos;have hsp:=hsp rfl;obtain⟨cl,yl,hcl,_⟩:=hcell (cap-1) (by omega);obtain⟨c',el',fz',hb',_,_,hbd,_⟩:=pY hcl hpos;rw[hb]at hb';cases hb';have hbd:a.off+cap*E.size<=c.size:=by
        have:cap*E.size=(cap-1)*E.size+E.size:=by rw[<-Nat.succ_mul];congr 1;omega
        omega
       have hblk:a.block<w.heap.size:=(Array.getElem?_eq_some_iff.1 hb).1;have hlen:cells.length<=cap*E.size:=by rw[e1];exact Nat.mul_le_mul_right _ hlc
       have hor:OR P ρ1 w ⟨a.block,a.off,c.size⟩ (.cells 0 false cells):=by
        refine⟨c,fz,el,hb,rfl,(by show a.off+cells.length<=c.size;omega),(fun h=>by cases h),fun i v hv=>?_⟩;obtain⟨u,hu,hvr⟩:=v1.getElem hv;refine⟨u,?_,hvr⟩;show c[a.off+i]? =some u
        --where the i-th cell stands
        have hil:i<len*E.size:=by have:=(List.getElem?_eq_some_iff.1 hv).1;omega
        have hq:i / E.size<len:=Nat.div_lt_of_lt_mul (by rw[Nat.mul_comm];exact hil);obtain⟨ci,yi,hci,_⟩:=hcell (i / E.size) (by omega);obtain⟨c',el',fz',hb',_,hcil,_,hcj⟩:=pY hci hpos;rw[hb]at hb';cases hb';have hm:i % E.size<E.size:=Nat.mod_lt _ hpos;have h3:=hcj (i % E.size) hm;have h4:a.off+i / E.size*E.size+i % E.size=a.off+i:=by
         have:=Nat.div_add_mod i E.size;rw[Nat.mul_comm]at this;omega
        rw[h4]at h3;rw[h3]
        --the flattened list
        have hflat:∀(k:Nat) (css:List (List Value)) (q r:Nat) (hr:r<k),(∀x∈css,x.length=k)->css.flatten[q*k+r]? =(css[q]?).bind (·[r]?):=by
         intro k css
         induction css with
         | nil=>intro q r hr _;simp
         | cons x css ih=>
          intro q r hr hx;have hxl:=hx x (by simp)
          cases q with
          | zero=>simp only[List.flatten_cons,Nat.zero_mul,Nat.zero_add,List.getElem?_cons_zero,Option.bind_some];rw[List.getElem?_append_left (by omega)]
          | succ q=>simp only[List.flatten_cons,List.getElem?_cons_succ];rw[List.getElem?_append_right (by rw[Nat.succ_mul];omega),<-ih q r hr (fun y hy=>hx y (by simp[hy]))];congr 1;rw[Nat.succ_mul];omega
        have h5:=hflat E.size ((List.range len).map get) (i / E.size) (i % E.size) hm (by
         intro x hx;simp only[List.mem_map,List.mem_range]at hx;obtain⟨j,hj,rfl⟩:=hx;obtain⟨cj,yj,hcj,_⟩:=hcell j (by omega);have:get j=cj:=by simp[get,hcj]
         rw[this];exact(cells?_spec hcj).1)
        have h6:i / E.size*E.size+i % E.size=i:=by have:=Nat.div_add_mod i E.size;rw[Nat.mul_comm]at this;omega
        rw[h6,hu]at h5;have h7:((List.range len).map get)[i / E.size]? =some ci:=by simp[hq,get,hci]
        rw[h7]at h5;exact h5.symm
       obtain⟨l2,s2⟩:=l1.add (l:=⟨a.block,a.off,c.size⟩) hblk hor;refine⟨_,_,[.slice false E.size h1.next 0 len],l2,s1.trans s2,w1.trans (Grows.alloc _ _),.cons (.slice _ _ _ _ _ cap a hlc hcm (by simp) (fun _=>⟨_,aV _ _ _,?_,?_⟩)) (.nil _),.inr ⟨_,len,cells,rfl,Nat.le_trans hlc hcm,H.get_alloc_new _ _,e1,fun i hi=>(q1 i hi).mono (Grows.alloc _ _)⟩⟩
       ·obtain⟨ab,ao,asp⟩:=a;have hsp:asp=none:=hsp;subst hsp;rfl
       ·show a.off+0+cap*E.size<=c.size;omega
    ·cases hT
   ·cases hT
  ·rename_i fs hk;split at hT
   ·rename_i T' hT';split at hT
    ·rename_i hsz;cases hT;obtain⟨xs,n',rfl,_,hcl,hxl,hxs⟩:=DataW.trod_struct hk hx;have:=yL (enc:=enc) (w:=w) (n:=n') (m:=m) (fun t T hT cs x hx=>rT m t T hT n' cs x hx) (cs:=cs) fs.toList 0 T hT' (by omega) (by
      intro f hf;obtain⟨i,hi,e⟩:=List.getElem_of_mem hf;have h1:fs[i]? =some f:=by
       have hi':i<fs.size:=by simpa using hi
       simp only[Array.getElem?_eq_getElem hi',Option.some.injEq];simpa using e
      have h2:=hxs i f h1;have hi2:i<xs.length:=by rw[hxl];simpa using hi
      exact⟨xs[i],by rw[h2];exact List.getElem?_eq_getElem hi2⟩)
     simpa using this
    ·cases hT
   ·cases hT
  ·rename_i k e hk;split at hT
   ·rename_i E hE;split at hT
    ·rename_i hsz;cases hT;obtain⟨xs,n',rfl,_,hcl,hxl,hxs⟩:=DataW.trod_array hk hx;have:=CM (w:=w) (P:=P) (T:=E) (cs:=cs) k 0 (by omega) (fun i _ hi=>by
      have h2:=hxs i (by omega);have hi2:i<xs.length:=by omega
      rw[List.getElem?_eq_getElem hi2,<-hsz.1]at h2;exact rT m e E hE n' _ _ h2)
     simpa using this
    ·cases hT
   ·cases hT
  ·cases hT
end
def Ty.isAgg:Ty->Bool
 | .unit | .pair .. =>true
 | _=>false
def ShV(T:Ty)(v:AV)(h:H):Prop:=∃avs,Sh T avs h/\v=if T.isAgg then .agg avs else avs.headD .junk
def aBw:List Ty->List AV->H->Prop
 | [],[],_=>True
 | T::Ts,v::vs,h=>ShV T v h/\aBw Ts vs h
 | _,_,_=>False
def EV(P:Program)(t:TypeId):Bool:=match P.underlying t with
 | some (.struct _) | some (.array _ _)=>true
 | _=>false
def tysOf(P:Program)(m:Nat):List TypeId->Option (List Ty)
 | []=>some []
 | t::ts=>match F3 P m t,tysOf P m ts with
  | some T,some Ts=>if T.isAgg=EV P t then some (T::Ts)else none
  | _,_=>none
theorem ShV.mono{h h':H}(g:Grows h h'){T:Ty}{v:AV}(hs:ShV T v h):ShV T v h':=let ⟨avs,h1,h2⟩:=hs;⟨avs,h1.mono g,h2⟩
theorem CX{H0:Type}{enc:TypeId×Value->H0}{w:World}{r:Reach}{base:Nat}{m:Nat} :∀{ts:List TypeId} {Ts:List Ty} {vs:List Value} {ds:List (DataW H0)} {ps:List MemPlace},
  tysOf P m ts=some Ts->DataW.TrodAll enc P w 0 (fun _=>true) true ts vs ds ps->(∀(j:Nat) t v,ts[j]? =some t->vs[j]? =some v->Value.okWide P w r base t v)->
  ∀(ρ:Emb) (h:H),Laid P ρ h w->∃ρ' h' args,Laid P ρ' h' w/\Sub ρ ρ'/\Grows h h'/\VRs ρ' args vs/\aBw Ts args h'
 | [],Ts,vs,ds,ps,hT,hx,hok,ρ,h,hl=>by
  cases hT
  cases vs with
  | nil=>exact⟨ρ,h,[],hl,Sub.refl _,Grows.refl _,VRs.nil _,trivial⟩
  | cons v vs=>cases ds<;>exact hx.elim
 | t::ts,Ts,vs,ds,ps,hT,hx,hok,ρ,h,hl=>by
  unfold tysOf at hT;split at hT
  ·rename_i T Ts' h1 h2;split at hT
   ·rename_i hag;cases hT;obtain⟨v,vs',d,ds',p,q,rfl,rfl,rfl,hv,hvs⟩:=trodAll_cons hx;obtain⟨fuel,hv⟩:=hv;obtain⟨ρ1,w1,avs,l1,s1,g1,v1,q1⟩:=rT m t T h1 fuel _ _ hv ρ h hl;obtain⟨ρ2,w2,args,l2,s2,g2,v2,q2⟩:=CX h2 hvs (fun j t v ht hv=>hok (j+1) t v ht hv) ρ1 w1 l1;have hok0:=hok 0 t v rfl rfl;refine⟨ρ2,w2,(if T.isAgg then .agg avs else avs.headD .junk)::args,l2,s1.trans s2,g1.trans g2,.cons ?_ v2,⟨avs,q1.mono g2,rfl⟩,q2⟩
    cases hia:T.isAgg with
    | true=>
     rw[hia]at hag;have:∃cs,v= .agg cs:=by
      unfold Value.okWide at hok0;unfold EV at hag;split at hag
      ·rename_i hu;rw[hu]at hok0;simp only at hok0;obtain⟨cs,e,_⟩:=hok0;exact⟨cs,e⟩
      ·rename_i hu;rw[hu]at hok0;simp only at hok0;obtain⟨cs,e,_⟩:=hok0;exact⟨cs,e⟩
      ·cases hag
     obtain⟨cs,rfl⟩:=this;rw[if_pos rfl];have:=(v1.mono s2).aggv;simpa [Value.cells]using this
    | false=>
     rw[if_neg (by simp)];have hlen:=q1.length;have hs1:T.size=1:=by cases T<;>first | rfl | cases hia
     have h1l:=v1.1;obtain⟨av,rfl⟩:∃av,avs=[av]:=by
      match avs,hlen,hs1 with
      | [av],_,_=>exact⟨av,rfl⟩
      | [],h1,h2=>simp[h2]at h1
      | _::_::_,h1,h2=>simp[h2]at h1
     obtain⟨u,us',e,hvr,hvn⟩:=v1.cons_inv;rw[hvn.nil_inv]at e;have:v=u:=by
      have hagt:∀(cs:Array Value),v≠ .agg cs:=by
       intro cs hv';subst hv';unfold Value.okWide at hok0;rw[hia]at hag;unfold EV at hag;split at hag
       ·cases hag
       ·cases hag
       ·rename_i hn1 hn2;split at hok0
        ·rename_i f hf;exact hn1 f hf
        ·rename_i n' e' hf;exact hn2 n' e' hf
        ·unfold Cell.okWide at hok0;split at hok0;all_goals first
          | (rename_i hh;cases hh)
          | skip
         all_goals first
          | (rename_i h1 h2;cases h2)
          | skip
         unfold Cell.ok at hok0;split at hok0;all_goals first
          | (rename_i h1 h2;cases h2)
          | exact hok0.elim
      cases v with
      | agg cs=>exact absurd rfl (hagt cs)
      | _=>simpa [Value.cells]using e
     subst this;exact hvr.mono s2
   ·cases hT
  ·cases hT
end
theorem calls_law{P:Program}{tab:FuncId->Option AF}(ht:TabOk P tab){g:FuncId}{m:Nat}{ts:List TypeId}{Ts:List Ty}(hT:tysOf P m ts=some Ts)
  (hlaw:∀args h,aBw Ts args h->∃n h',(run tab n).call g args h=some (.bool true,h')) {H0:Type} {enc:TypeId×Value->H0} {w:World} {r:Reach} {base:Nat} {vs:List Value} {ds:List (DataW H0)} {ps:List MemPlace}
  (hx:DataW.TrodAll enc P w 0 (fun _=>true) true ts vs ds ps) (hok:∀(j:Nat) t v,ts[j]? =some t->vs[j]? =some v->Value.okWide P w r base t v) (hgl:GlbAt P w):
  Calls P g vs.toArray w fun e w'=>e= .returned (.bool true)/\Below w.heap.size w w':=by
 obtain⟨ρ,h,args,hl,_,_,hv,hs⟩:=CX hT hx hok _ _ (Laid.empty w hgl);obtain⟨n,h',hrun⟩:=hlaw args h hs;refine(mP ht hrun hv hl.hr (fun y hy _=>hl.dom y hy) (fun x l o _ hg=>hl.ro x o hg)).mono ?_;rintro e w' ⟨u,ρ',rfl,h1,h2⟩;rw[wP h1];exact⟨rfl,h2⟩
open Go.ChangeShapes Go.WideShapes Go.ChangeAt Go.RowKit
theorem trodAll_stays{H0:Type}{enc:TypeId×Value->H0}{P:Program}(hl:laidOutB P=true){W W':World}(hb:Below W.heap.size W W'){sp:Nat->Bool} :∀{ts:List TypeId} {vs:List Value} {ds:List (DataW H0)} {ps:List MemPlace},
  (ts.all fun t=>P.readableRec t&&decide (t<P.types.size))=true->DataW.TrodAll enc P W 0 (fun _=>true) true ts vs ds ps->(∀x∈ps,x.block<W.heap.size)->(∀x∈ps,sp x.block=true)->DataW.TrodAll enc P W' 0 sp true ts vs ds ps
 | [],vs,ds,ps,ht,h,h1,h2=>by obtain⟨rfl,rfl,rfl⟩:=trodAll_nil h;exact trodAll_mk0
 | t::ts,vs,ds,ps,ht,h,h1,h2=>by obtain⟨v,vs',d,ds',p,q,rfl,rfl,rfl,hv,hvs⟩:=trodAll_cons h;simp only[List.all_cons,Bool.and_eq_true,decide_eq_true_eq]at ht;obtain⟨⟨hr,hs⟩,ht⟩:=ht;have hv':=WideElems.Trod_stays hl hr hs hv (fun x hx=>hb.same (h1 x (by simp[hx]))) (fun x hx=>h2 x (by simp[hx]));exact⟨p,q,hv',trodAll_stays hl hb (by simpa using ht) hvs (fun x hx=>h1 x (by simp[hx])) (fun x hx=>h2 x (by simp[hx])),rfl⟩
theorem trodAll_len{H0:Type}{enc:TypeId×Value->H0}{P:Program}{W:World}{b:Nat}{sp:Nat->Bool}{hd:Bool} :∀{ts:List TypeId} {vs:List Value} {ds:List (DataW H0)} {ps:List MemPlace},DataW.TrodAll enc P W b sp hd ts vs ds ps->ds.length=ts.length
 | [],vs,ds,ps,h=>by obtain⟨rfl,rfl,rfl⟩:=trodAll_nil h;rfl
 | t::ts,vs,ds,ps,h=>by obtain⟨v,vs',d,ds',p,q,rfl,rfl,rfl,hv,hvs⟩:=trodAll_cons h;simp[trodAll_len hvs]
end Go.Am

