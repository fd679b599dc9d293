/- The operations that change objects: store, map update, append; and that the abstract heap goes on. -/
import Derived.Lib.ConvBytes
import Derived.Lib.AtoiErrMem
import Derived.Test.YtapbgleednkimaaGreatDoorAmNe5
set_option linter.unusedVariables false
set_option linter.unusedSimpArgs false
namespace Go.Am
section
variable {P:Program} {ρ:Emb} {w:World} {a:List AV} {act:Act} {h h':H} {o:Oper} {ao:AO} {v:AV} {rd:List Nat}
theorem HR.heap{w':World}(hr:HR P ρ h w)(hh:w'.heap=w.heap):HR P ρ h w':=
 ⟨hr.gat.keep fun b l _ _=>by rw[hh],hr.goff,fun x l hx=>by rw[hh];exact hr.bound x l hx,fun x l o hx hg=>(hr.obj x l o hx hg).mono (Sub.refl ρ) (by rw[hh]),hr.inj⟩
theorem Stp.heap{w':World}(hh:w'.heap=w.heap)(h1:w'.os=w.os)(h2:w'.tape=w.tape)(h3:w'.output=w.output):Stp ρ h w ρ h w':=
 ⟨Sub.refl ρ,fun _ _ h=> .inl h,fun _ _ h=> .inl h,by rw[hh];exact Nat.le_refl _,h1,h2,h3,fun _ _ _=>by rw[hh]⟩
theorem HR.kill{b:Nat}{ob:AObj}(hr:HR P ρ h w)(hg:h.get b=some ob):HR P ρ (h.set b .dead) w/\Stp ρ h w ρ (h.set b .dead) w:=by
 refine⟨⟨hr.gat,fun c lc hc x l o hx hgx hrw=>?_,hr.bound,fun x l o hx hgx=>?_,fun x y lx ly ox oy hx hy hgx hgy hrx hly hne=>?_⟩,⟨Sub.refl ρ,fun _ _ h=> .inl h,fun _ _ h=> .inl h,Nat.le_refl _,rfl,rfl,rfl,fun _ _ _=>rfl⟩⟩
 ·by_cases e:x=b
  ·subst e;rw[H.get_set_same hg]at hgx;cases hgx;simp[AObj.rwlive]at hrw
  ·rw[H.get_set_ne e]at hgx;exact hr.goff c lc hc x l o hx hgx hrw
 ·by_cases e:x=b
  ·subst e;rw[H.get_set_same hg]at hgx;cases hgx;trivial
  ·rw[H.get_set_ne e]at hgx;exact hr.obj x l o hx hgx
 ·by_cases ex:x=b
  ·subst ex;rw[H.get_set_same hg]at hgx;cases hgx;simp[AObj.rwlive]at hrx
  ·rw[H.get_set_ne ex]at hgx;by_cases ey:y=b
   ·subst ey;rw[H.get_set_same hg]at hgy;cases hgy;simp[AObj.islive]at hly
   ·rw[H.get_set_ne ey]at hgy;exact hr.inj x y lx ly ox oy hx hy hgx hgy hrx hly hne
def EF(P:Program)(ρ:Emb)(h:H)(w:World)(r:Result Next)(v:AV)(h':H):Prop:=
 ∃u w' ρ',(r= .ok (.value u) w'\/(r= .ok .skip w'/\u=undef))/\VR ρ' v u/\HR P ρ' h' w'/\Stp ρ h w ρ' h' w'
theorem VR.undef:VR ρ (.tuple []) Go.undef:=(VRs.nil ρ).tuplev
theorem wX{b i:Nat}{new:List AV}{us:List Value}{l:Loc}(hr:HR P ρ h w)(hl:ρ b=some l)(hp:dG h b i new=some h')(hus:VRs ρ new us)(hone:∀x∈us,x.oneCell'=true):
  ∃w',(storeCells ⟨l.blk,l.base+i,none⟩ us).run P w= .ok () w'/\HR P ρ h' w'/\Stp ρ h w ρ h' w':=by
 unfold dG at hp;split at hp
 ·rename_i ver cs hg;split at hp
  ·rename_i hc;simp only[Bool.and_eq_true,decide_eq_true_eq]at hc;cases hp;have hobj:=hr.obj b l _ hl hg;obtain⟨cc,fz,e,h1,h2,h4,h5,h6⟩:=hobj;have:=h5 rfl;subst this;have hlen:=hus.1;have hst:=run_storeCells_at P l.blk (l.base+i) e us 0 cc w h1 (by omega) hone;refine⟨_,hst,?_⟩;have hcs:(cc.toList.take (l.base+i+0)++us++cc.toList.drop (l.base+i+0+us.length)).length=cc.size:=by simp;omega
   refine HR.turn hr hl hg rfl rfl (by simp) rfl rfl rfl (fun k hk=>setRow_other w _ _ _ hk) ?_;refine⟨_,(0,0),e,setRow_heap w l.blk cc _ e (0,0) h1,by rw[List.size_toArray,hcs];exact h2,by rw[List.size_toArray,hcs,uP _ _ _ hc.1];exact h4,fun _=>rfl,fun j y hy=>?_⟩;rw[D2 _ _ _ hc.1]at hy;simp only[Nat.add_zero,List.getElem?_toArray];rw[List.getElem?_append]at hy ⊢;rw[List.getElem?_append]at hy ⊢;simp only[List.length_append,List.length_take,Array.length_toList]at hy ⊢;have m1:min i cs.length=i:=by omega
   have m2:min (l.base+i) cc.size=l.base+i:=by omega
   rw[m1]at hy;rw[m2];by_cases c1:j<i
   ·rw[if_pos (by omega),if_pos c1]at hy;rw[if_pos (by omega),if_pos (by omega),List.getElem?_take,if_pos (by omega),Array.getElem?_toList];rw[List.getElem?_take,if_pos c1]at hy;exact h6 j y hy
   ·by_cases c2:j<i+new.length
    ·rw[if_pos c2,if_neg c1]at hy;rw[if_pos (by omega),if_neg (by omega)];obtain⟨u,hu,hv⟩:=hus.getElem hy;exact⟨u,by rw[<-hu];congr 1;omega,hv⟩
    ·rw[if_neg c2,List.getElem?_drop]at hy;rw[if_neg (by omega),List.getElem?_drop,Array.getElem?_toList];obtain⟨u,hu,hv⟩:=h6 _ y hy;exact⟨u,by rw[<-hu];congr 1;omega,hv⟩
  ·cases hp
 ·cases hp
theorem UM{t:TypeId}{p x:Operand}(ho:o.op= .store t p x)(htr:aS P o=some ao)(hrun:aop a h ao=some (v,h',rd))(ht:Ops ρ a act ao.uses)(hr:HR P ρ h w):
  EF P ρ h w ((execOp act.eval o).run P w) v h':=by
 simp only[aS,ho]at htr;split at htr
 ·rename_i n p' x' hs hp hx;cases htr;simp only[AO.uses]at ht;have h1:=aN hp ht.left;have h2:=aN hx ht.right;simp only[aop]at hrun;split at hrun
  ·rename_i b i hb;rw[hb]at h1;obtain⟨l,hl,hpe⟩:=h1.ptr_inv;split at hrun
   ·rename_i hn;split at hrun
    ·rename_i h'' hput;cases hrun;have hone:(ev a x').cells.all AV.one=true:=by
      unfold dG at hput;split at hput
      ·split at hput
       ·rename_i hc;simp only[Bool.and_eq_true]at hc;exact hc.2
       ·cases hput
      ·cases hput
     obtain⟨hcells,hones⟩:=h2.cells hone;obtain⟨w',hst,hr',hs'⟩:=wX hr hl hput hcells hones;refine⟨undef,w',ρ,.inr ⟨?_,rfl⟩,VR.undef,hr',hs'⟩;have hsz:(act.eval x).cells.size=n:=by have:=hcells.1;simp at this;omega
     simp[execOp,ho,Instr.storeAt,hpe,Instr.sureAddr,storeVar,cL hs,hsz,hst]
    ·cases hrun
   ·cases hrun
  ·cases hrun
 ·cases htr
theorem TS{kd:Nat}{d:TypeDesc}(hd:(kd=0/\∃q,d= .int q)\/(kd=1/\d= .bool)\/(kd=2/\d= .string)){k y:AV}{u z:Value}(hk:VR ρ k u)(hz:VR ρ y z):
  ∀{es:List (AV×AV)} {en:List MapEntry} {r:Option AV} (i:Nat),iG kd k es=some r->VRs ρ (es.map (·.1)) (en.map (·.key))->VRs ρ (es.map (·.2)) (en.map (·.val))->
   (Instr.findNow d u en i=some none/\∀born,VRs ρ ((eV kd k y es).map (·.1)) ((en++[({key:=u,val:=z,born:=born} :MapEntry)]).map (·.key))/\VRs ρ ((eV kd k y es).map (·.2)) ((en++[({key:=u,val:=z,born:=born} :MapEntry)]).map (·.val)))\/
   (∃j z',Instr.findNow d u en i=some (some (i+j,z'))/\(∃e,en[j]? =some e/\Instr.sameBits 10000 e.key u=true)/\
    VRs ρ ((eV kd k y es).map (·.1)) ((en.modify j fun(e:MapEntry)=>{e with key:=u,val:=z}).map (·.key))/\VRs ρ ((eV kd k y es).map (·.2)) ((en.modify j fun(e:MapEntry)=>{e with key:=u,val:=z}).map (·.val))):=by
 intro es
 induction es with
 | nil=>
  intro en r i hf h1 h2;have:en=[]:=by have:=h1.1;simpa using this
  subst this;exact .inl ⟨rfl,fun born=>⟨.cons hk (VRs.nil ρ),.cons hz (VRs.nil ρ)⟩⟩
 | cons p es ih=>
  intro en r i hf h1 h2;obtain⟨k',y'⟩:=p
  cases en with
  | nil=>have:=h1.1;simp at this
  | cons e en=>
   simp only[List.map_cons]at h1 h2;simp only[iG]at hf;split at hf
   ·rename_i hq;cases hf;obtain⟨q1,q2⟩:=l5 hd hq hk h1.head;refine .inr ⟨0,e.val,by simp[Instr.findNow,q1],⟨e,rfl,q2 rfl⟩,?_,?_⟩
    ·simp only[eV,hq,List.map_cons,List.modify_zero_cons];exact .cons hk h1.tail
    ·simp only[eV,hq,List.map_cons,List.modify_zero_cons];exact .cons hz h2.tail
   ·rename_i hq;obtain⟨q1,_⟩:=l5 hd hq hk h1.head;rcases ih (i+1) hf h1.tail h2.tail with⟨r1,r2⟩ | ⟨j,z',r1,⟨e',r4,r5⟩,r6,r7⟩
    ·refine .inl ⟨by simp[Instr.findNow,q1,r1],fun born=>?_⟩;simp only[eV,hq,List.map_cons,List.cons_append];exact⟨.cons h1.head (r2 born).1,.cons h2.head (r2 born).2⟩
    ·refine .inr ⟨j+1,z',by simp only[Instr.findNow,q1,r1];congr 3;omega,⟨e',by simpa using r4,r5⟩,?_,?_⟩
     ·simp only[eV,hq,List.map_cons,List.modify_succ_cons];exact .cons h1.head r6
     ·simp only[eV,hq,List.map_cons,List.modify_succ_cons];exact .cons h2.head r7
   ·cases hf
theorem AH{t:TypeId}{m k x:Operand}(ho:o.op= .mapUpdate t m k x\/o.op= .insert t m k x)(htr:aS P o=some ao)(hrun:aop a h ao=some (v,h',rd))(ht:Ops ρ a act ao.uses)(hr:HR P ρ h w):
  EF P ρ h w ((execOp act.eval o).run P w) v h':=by
 have hexec:(execOp act.eval o).run P w=((Instr.mapUpdate t (act.eval m) (act.eval k) (act.eval x)).run P w).andThen fun _ w'=> .ok .skip w':=by rcases ho with ho | ho<;>simp[execOp,ho]
 have htr':(match P.underlying t,trR m,trR k,trR x with
  | some (.map kt _),some m,some k,some v=>match oQ P kt with
   | some kd=>some (AO.mapUpdate kd m k v)
   | none=>none
  | _,_,_,_=>none)=some ao:=by rcases ho with ho | ho<;>(simp only[aS,ho]at htr;exact htr)
 split at htr'
 ·rename_i kt et m' k' x' hu hm hk hx;split at htr'
  ·rename_i kd hkd;cases htr';simp only[AO.uses]at ht;have h1:=aN hm ht.left.left;have h2:=aN hk ht.left.right;have h3:=aN hx ht.right;obtain⟨d,hd,hdk⟩:=mH hkd;simp only[aop]at hrun;split at hrun
   ·rename_i r hm';rw[hm']at h1;obtain⟨l,hl,hme⟩:=h1.map_inv;split at hrun
    ·rename_i ver es hg;split at hrun
     ·rename_i hf;cases hrun;obtain⟨res,hf⟩:=Option.isSome_iff_exists.1 hf;obtain⟨en,ck,g1,g2,g3⟩:=hr.obj r l _ hl hg;have hgo:(getObj l.blk).run P w= .ok (.map en ck) w:=by simp[getObj,Sem.run,g1]
      have hset:∀ob:Obj,(setObj l.blk ob).run P w= .ok () (w.putObj l.blk ob):=fun ob=>by simp[setObj,Sem.run,g1,World.putObj]
      have hlt:l.blk<w.heap.size:=(Array.getElem?_eq_some_iff.1 g1).1;have fin:∀(en':Array MapEntry) (ck':Nat),(Instr.mapUpdate t (act.eval m) (act.eval k) (act.eval x)).run P w= .ok () (w.putObj l.blk (.map en' ck'))->
        VRs ρ ((eV kd (ev a k') (ev a x') es).map (·.1)) (en'.toList.map (·.key))->VRs ρ ((eV kd (ev a k') (ev a x') es).map (·.2)) (en'.toList.map (·.val))->
        EF P ρ h w ((execOp act.eval o).run P w) (.tuple []) (h.set r (.map (ver+1) (eV kd (ev a k') (ev a x') es))):=by
       intro en' ck' hrun' q1 q2;obtain⟨t1,t2⟩:=HR.turn (o':= .map (ver+1) (eV kd (ev a k') (ev a x') es)) (w':=w.putObj l.blk (.map en' ck')) hr hl hg rfl rfl (by simp) rfl rfl rfl (fun b hb=>World.putObj_heap_other hb) ⟨en',ck',World.putObj_heap_same hlt,q1,q2⟩;exact⟨undef,_,ρ,.inr ⟨by rw[hexec,hrun'];rfl,rfl⟩,VR.undef,t1,t2⟩
      rcases TS hdk h2 h3 0 hf g2 g3 with⟨q,q2⟩ | ⟨j,z',q,⟨e',q3,q4⟩,q5,q6⟩
      ·refine fin (en.push {key:=act.eval k,val:=act.eval x,born:=ck}) (ck+1) ?_ (by have:=(q2 ck).1;simpa using this) (by have:=(q2 ck).2;simpa using this);simp[Instr.mapUpdate,run_underlying hu,hme,hgo,d8 hkd,Instr.findKey,run_underlying hd,q,hset]
      ·refine fin (en.modify j fun(e:MapEntry)=>{e with key:=act.eval k,val:=act.eval x}) ck ?_ (by simpa [Array.toList_modify]using q5) (by simpa [Array.toList_modify]using q6);have hgk:en[j]? =some e':=by rw[<-Array.getElem?_toList];exact q3
       rw[Nat.zero_add]at q;simp[Instr.mapUpdate,run_underlying hu,hme,hgo,d8 hkd,Instr.findKey,run_underlying hd,q,hset,hgk,Instr.keyThatStays,q4]
     ·cases hrun
    ·cases hrun
   ·cases hrun
  ·cases htr'
 ·cases htr'
theorem dN{size n:Nat}{ad:Addr}{len cap:Nat}{us:List Value}{w':World}(hn:us.length=n*size)(hc:∀j u,us[j]? =some u->w'.cell? (ad.add j)=some u):
  (Builtin.firstCells size n (.slice (some ad) len cap)).run P w'= .ok us.toArray w':=run_firstCells_some w' size n ad len cap us hn hc
theorem aEP{size n:Nat}{x:AR}{new:List AV}{u:Value}(hs:fY a h size x=some (new,n))(hx:VR ρ (ev a x) u)(hr:HR P ρ h w):
  ∃us,VRs ρ new us/\(∀w',w'.heap=w.heap->(Builtin.lenOf u).run P w'= .ok n w'/\(Builtin.firstCells size n u).run P w'= .ok us.toArray w'):=by
 unfold fY at hs;split at hs
 ·rename_i he;cases hs;rw[he]at hx;have hue:u= .slice none 0 0:=by cases hx;rfl
  subst hue;exact⟨[],VRs.nil ρ,fun w' _=>⟨by simp[Builtin.lenOf],by simp[Builtin.firstCells]⟩⟩
 ·rename_i fl sz b i m he;split at hs
  ·rename_i hsz;subst hsz;split at hs
   ·rename_i cs hcs;cases hs;rw[he]at hx;obtain⟨ad,cap,rfl,g1,g2,g3,g4⟩:=hx.slice_inv;obtain⟨ver,rw,all,hg,hn,e⟩:=cJ hcs;by_cases h0:n*sz=0
    ·have hnil:new=[]:=by rw[e,h0];simp
     subst hnil;refine⟨[],VRs.nil ρ,fun w' _=>⟨by simp[Builtin.lenOf],?_⟩⟩;have:=dN (P:=P) (w':=w') (size:=sz) (n:=n) (ad:=ad) (len:=n) (cap:=cap) (us:=[]) (by simp[h0]) (fun j u hu=>by simp at hu);simpa using this
    ·have hn0:0<n:=by rcases Nat.eq_zero_or_pos n with hz | hz;exact absurd (by rw[hz,Nat.zero_mul]) h0;exact hz
     obtain⟨l,hl,rfl,_⟩:=g4 (by omega);obtain⟨us,h1,h2,h3⟩:=(hr.obj b l _ hl hg).cells hn e;refine⟨us,h1,fun w' hw'=>⟨by simp[Builtin.lenOf],dN h2 (fun j u hu=>?_)⟩⟩;rw[Addr.add_mk];have:=h3 j u hu;simpa [World.cell?,hw']using this
   ·cases hs
  ·cases hs
 ·rename_i s' he;split at hs
  ·rename_i h1;subst h1;cases hs;rw[he]at hx;rw[hx.str_inv];refine⟨s'.data.toList.map fun b=> .int .u8 b.toNat,⟨by simp,fun j y u hy hu=>?_⟩,fun w' _=>⟨by simp[Builtin.lenOf],?_⟩⟩
   ·rw[List.getElem?_map]at hy hu
    cases hb:s'.data.toList[j]? with
    | none=>rw[hb]at hy;cases hy
    | some b=>rw[hb]at hy hu;cases hy;cases hu;exact .int _ _
   ·have hex:s'.extract 0 s'.size=s':=ByteArray.extract_zero_size;simp only[Builtin.firstCells,hex,Sem.run_pure];congr 1;apply Array.ext';simp
  ·cases hs
 ·cases hs
theorem k7{ts:Array TypeId}{ty t t2 e:TypeId}{d2:TypeDesc}{i:TypeInfo}{z:Value}{base:Option Addr}{m cap n:Nat}{xv:Value}{olds news:List Value}
  (h0:ts[0]? =some t) (h1:ts[1]? =some t2) (hu:P.underlying t=some (.slice e)) (hu2:P.underlying t2=some d2) (hd2:(∃e2,d2= .slice e2)\/d2= .string) (hi:P.info? e=some i) (hz:i.zero=some z)
  (hlen:(Builtin.lenOf xv).run P w= .ok n w) (hnew:(Builtin.firstCells i.size n xv).run P w.drew= .ok news.toArray w.drew) (hold:(Builtin.firstCells i.size m (.slice base m cap)).run P w.drew= .ok olds.toArray w.drew)
  (hg:cap<m+n) (h63:m+n<=9223372036854775807) (hfit:(m+n)*i.bytes<=140737488355328):
  (Builtin.append_ ts ty #[.slice base m cap,xv]).run P w=
   .ok (.slice (some ⟨w.heap.size,0,none⟩) (m+n) (grownCap w (m+n) cap e)) (w.drew.alloc (.cells (olds.toArray++news.toArray++Builtin.zeroCells z.cells (grownCap w (m+n) cap e-(m+n))) e)):=by
 have hn:¬(m+n<=cap):=by omega
 have h63':¬(9223372036854775807<((m:Int)+(n:Int))):=by omega
 have h48:=growslice_fits hg hfit;have h48':¬(281474976710656<Builtin.nextslicecap (m+n) cap*i.bytes):=by omega
 rcases hd2 with⟨e2,rfl⟩ | rfl<;>
 ·simp[Builtin.append_,h0,h1,run_underlying hu,run_underlying hu2,sizeOf,typeInfo,zeroValue,hi,hz,hlen,hn,h63',h48',Question.forced,hnew,hold,newRow,grownCap];congr 2;apply Array.ext';simp[List.append_assoc]
theorem iU{ts:Array TypeId}{ty t t2 e:TypeId}{d2:TypeDesc}{i:TypeInfo}{base:Option Addr}{m cap n:Nat}{xv:Value}{news:List Value}{w':World}
  (h0:ts[0]? =some t) (h1:ts[1]? =some t2) (hu:P.underlying t=some (.slice e)) (hu2:P.underlying t2=some d2) (hd2:(∃e2,d2= .slice e2)\/d2= .string) (hi:P.info? e=some i)
  (hlen:(Builtin.lenOf xv).run P w= .ok n w) (hnew:(Builtin.firstCells i.size n xv).run P w= .ok news.toArray w)
  (hg:m+n<=cap) (hst:∀ad,base=some ad->(storeCells (ad.add (m*i.size)) news).run P w= .ok () w') (hb:base=none->w'=w):
  (Builtin.append_ ts ty #[.slice base m cap,xv]).run P w= .ok (.slice base (m+n) cap) w':=by
 cases base with
 | none=>
  have:=hb rfl;subst this;rcases hd2 with⟨e2,rfl⟩ | rfl<;>
  simp[Builtin.append_,h0,h1,run_underlying hu,run_underlying hu2,sizeOf,typeInfo,hi,hlen,hg,hnew]
 | some ad=>
  have hs:=hst ad rfl;rcases hd2 with⟨e2,rfl⟩ | rfl<;>
  simp[Builtin.append_,h0,h1,run_underlying hu,run_underlying hu2,sizeOf,typeInfo,hi,hlen,hg,hnew,hs]
theorem gA(z:Array Value)(n:Nat):(Builtin.zeroCells z n).size=n*z.size:=by simp[Builtin.zeroCells]
theorem yK{w1:World}{new:List AV}{us zs:List Value}{e:TypeId}{size n cap':Nat}(hr:HR P ρ h w1)(hfr:ρ h.next=none)(hv:VRs ρ new us)(hn:us.length=n*size)(hz:zs.length=(cap'-n)*size)
  (hc:n<=cap') (hm:cap'<=maxLen):
  ∃ρ',HR P ρ' (h.alloc (.cells 0 true new)) (w1.alloc (.cells (us.toArray++zs.toArray) e))/\Stp ρ h w1 ρ' (h.alloc (.cells 0 true new)) (w1.alloc (.cells (us.toArray++zs.toArray) e))/\
   VR ρ' (.slice false size h.next 0 n) (.slice (some ⟨w1.heap.size,0,none⟩) n cap'):=by
 have hsz:(us.toArray++zs.toArray).size=cap'*size:=by simp only[Array.size_append,List.size_toArray,hn,hz,<-Nat.add_mul];congr 1;omega
 let l:Loc:=⟨w1.heap.size,0,(us.toArray++zs.toArray).size⟩
 have ho:OR P (upd ρ h.next l) (w1.alloc (.cells (us.toArray++zs.toArray) e)) l (.cells 0 true new):=by
  refine OR.newRow rfl rfl rfl ?_ (fun i y hy=>?_)
  ·rw[Array.size_append,List.size_toArray,hv.1];omega
  ·obtain⟨u,hu,hr'⟩:=(hv.mono (gD (l:=l) hfr)).getElem hy;refine⟨u,?_,hr'⟩;have hi:i<us.length:=(List.getElem?_eq_some_iff.1 hu).1;rw[Array.getElem?_append,if_pos (by simpa using hi)];simpa using hu
 obtain⟨h1,h2⟩:=HR.alloc hr hfr rfl ho;exact⟨_,h1,h2,.slice false size h.next 0 n cap' _ hc hm (fun h=>by cases h) (fun _=>⟨l,aV _ _ _,rfl,by show 0+0+cap'*size<=(us.toArray++zs.toArray).size;omega⟩)⟩
theorem HR.moved{b:Nat}{l l':Loc}{ver:Nat}{cs new:List AV}{w':World}(hr:HR P ρ h w)(hfr:ρ h.next=none)(hl:ρ b=some l)(hg:h.get b=some (.cells ver true cs))(hb:l'.blk=l.blk)
  (hsz:w'.heap.size=w.heap.size) (hos:w'.os=w.os) (htp:w'.tape=w.tape) (hou:w'.output=w.output) (hother:∀k,k≠l.blk->w'.heap[k]? =w.heap[k]?) (ho:OR P (upd ρ h.next l') w' l' (.cells 0 true new)):
  HR P (upd ρ h.next l') ((h.set b .dead).alloc (.cells 0 true new)) w'/\Stp ρ h w (upd ρ h.next l') ((h.set b .dead).alloc (.cells 0 true new)) w':=by
 have hs:=gD (l:=l') hfr;have hbn:b≠h.next:=by have:=H.lt_of_get hg;omega
 have getd:∀x,x≠h.next->((h.set b .dead).alloc (.cells 0 true new)).get x=if x=b then some .dead else h.get x:=fun x hx=>by
  rw[H.get_alloc,if_neg (by simpa using hx)];by_cases e:x=b
  ·subst e;rw[if_pos rfl,H.get_set_same hg]
  ·rw[if_neg e,H.get_set_ne e]
 have getn:((h.set b .dead).alloc (.cells 0 true new)).get h.next=some (.cells 0 true new):=by rw[H.get_alloc,if_pos (by simp)]
 refine⟨⟨hr.gat.keep fun c lc hc hlt=>hother c fun e=>hr.goff c lc hc b l _ hl hg rfl e.symm,fun c lc hc x lx ox hx hgx hrw=>?_,fun x lx hx=>?_,fun x lx ox hx hgx=>?_,fun x y lx ly ox oy hx hy hgx hgy hrx hly hne=>?_⟩,⟨hs,fun x lx hx=>?_,fun x lx hx=>?_,by omega,hos,htp,hou,fun k hk hno=>hother k (fun e=>hno b l _ hl hg rfl e.symm)⟩⟩
 ·by_cases e:x=h.next
  ·subst e;rw[aV]at hx;cases hx;rw[hb];exact hr.goff c lc hc b l _ hl hg rfl
  ·rw[bJ e]at hx;rw[getd x e]at hgx;by_cases eb:x=b
   ·rw[if_pos eb]at hgx;cases hgx;simp[AObj.rwlive]at hrw
   ·rw[if_neg eb]at hgx;exact hr.goff c lc hc x lx ox hx hgx hrw
 ·by_cases e:x=h.next
  ·subst e;rw[aV]at hx;cases hx;rw[hb,hsz];exact hr.bound b l hl
  ·rw[bJ e]at hx;rw[hsz];exact hr.bound x lx hx
 ·by_cases e:x=h.next
  ·subst e;rw[aV]at hx;cases hx;rw[getn]at hgx;cases hgx;exact ho
  ·rw[bJ e]at hx;rw[getd x e]at hgx;by_cases eb:x=b
   ·rw[if_pos eb]at hgx;cases hgx;trivial
   ·rw[if_neg eb]at hgx;have h0:=hr.obj x lx ox hx hgx
    cases hlv:ox.islive with
    | true=>exact h0.mono hs (hother _ (fun e'=>hr.inj b x l lx _ ox hl hx hg hgx rfl hlv (Ne.symm eb) e'.symm))
    | false=>cases ox<;>first | trivial | (simp[AObj.islive]at hlv)
 ·by_cases ex:x=h.next
  ·subst ex;rw[aV]at hx;cases hx;rw[bJ (Ne.symm hne)]at hy;rw[getd y (Ne.symm hne)]at hgy;by_cases eb:y=b
   ·rw[if_pos eb]at hgy;cases hgy;simp[AObj.islive]at hly
   ·rw[if_neg eb]at hgy;rw[hb];exact hr.inj b y l ly _ oy hl hy hg hgy rfl hly (Ne.symm eb)
  ·rw[bJ ex]at hx;rw[getd x ex]at hgx;by_cases ebx:x=b
   ·rw[if_pos ebx]at hgx;cases hgx;simp[AObj.rwlive]at hrx
   ·rw[if_neg ebx]at hgx;by_cases ey:y=h.next
    ·subst ey;rw[aV]at hy;cases hy;rw[hb];exact hr.inj x b lx l ox _ hx hl hgx hg hrx rfl ebx
    ·rw[bJ ey]at hy;rw[getd y ey]at hgy;by_cases eby:y=b
     ·rw[if_pos eby]at hgy;cases hgy;simp[AObj.islive]at hly
     ·rw[if_neg eby]at hgy;exact hr.inj x y lx ly ox oy hx hy hgx hgy hrx hly hne
 ·by_cases e:x=h.next
  ·subst e;exact .inr ⟨Nat.le_refl _,by simp⟩
  ·rw[bJ e]at hx;exact .inl hx
 ·by_cases e:x=h.next
  ·subst e;rw[aV]at hx;cases hx;exact .inr (.inr ⟨b,l,_,hl,hg,rfl,hb⟩)
  ·rw[bJ e]at hx;exact .inl hx
theorem Ev.kill{b:Nat}{ver:Nat}{cs:List AV}(hg:h.get b=some (.cells ver true cs)):Ev h (h.set b .dead):=Ev.set hg (.inr (.inl ⟨rfl,rfl⟩)) rfl
theorem vD{ts:Array TypeId}{ty t t2 e:TypeId}{kd:IntKind}{i:TypeInfo}{z:Value}{n:Nat}
  (h0:ts[0]? =some t) (h1:ts[1]? =some t2) (hu:P.underlying t=some (.slice e)) (hu2:P.underlying t2=some (.int kd)) (hi:P.info? e=some i) (hz:i.zero=some z) (hs:0<i.size)
  (hn:0<n) (h63:n<=9223372036854775807) (hfit:n*i.bytes<=140737488355328):
  (Builtin.append_ ts ty #[.slice none 0 0,.int .i64 n]).run P w=
   .ok (.slice (some ⟨w.heap.size,0,none⟩) n (grownCap w n 0 e)) (w.drew.alloc (.cells (Builtin.zeroCells z.cells n++Builtin.zeroCells z.cells (grownCap w n 0 e-n)) e)):=by
 have hw:IntKind.i64.wrap (n:Int)=(n:Int):=by simp only[IntKind.wrap,IntKind.bits,IntKind.signed];simp;omega
 have h63':¬(9223372036854775807<(n:Int)):=by omega
 have hneg:¬((n:Int)<0):=by omega
 have hb:¬(281474976710656<(n:Int)*(i.bytes:Int)):=by
  have:((n*i.bytes:Nat):Int)<=140737488355328:=by omega
  rw[Int.natCast_mul]at this;omega
 have h48:=growslice_fits (show 0<n from hn) hfit;have h48':¬(281474976710656<Builtin.nextslicecap n 0*i.bytes):=by omega
 have hns:¬(n*i.size=0):=by intro h;rcases Nat.mul_eq_zero.1 h with h | h<;>omega
 simp[Builtin.append_,h0,h1,run_underlying hu,run_underlying hu2,sizeOf,typeInfo,zeroValue,hi,hz,hw,asInt,asIntOf,hneg,hb,hn,h63',h48',hns,Question.forced,newRow,grownCap,Builtin.firstCells];omega
theorem mW{c:Call}(ho:o.op= .call c)(hc:c.callee= .builtin .append){t t2 e:TypeId}{d2:TypeDesc}{ts:List TypeId}{s0 x0:Operand}{s1 x1:AR}{i:TypeInfo}{z:List AV}(hts:c.argTypes.toList=t::t2::ts)(hargs:c.args.toList=[s0,x0])
  (hu:P.underlying t=some (.slice e)) (hu2:P.underlying t2=some d2) (hd2:(∃e2,d2= .slice e2)\/d2= .string) (hs1:trR s0=some s1) (hx1:trR x0=some x1) (hi:P.info? e=some i) (hz:m9 P e=some z) (hcond:i.size=z.length/\0<i.size)
  (hrun:aop a h (.append i.size i.bytes s1 x1)=some (v,h',rd)) (ht:Ops ρ a act (AO.append i.size i.bytes s1 x1).uses) (hr:HR P ρ h w)
  (hfr:∀y,h.next<=y->y<h'.next->ρ y=none):EF P ρ h w ((execOp act.eval o).run P w) v h':=by
 simp only[AO.uses]at ht;have h1:=aN hs1 ht.left;have h2:=aN hx1 ht.right;obtain⟨zu,i',hi',hzero,hrz,hop⟩:=fZ hz;rw[hi]at hi';cases hi';have hzl:zu.cells.size=i.size:=by have:=dO hop;simp at this;omega
 have hat:c.argTypes[0]? =some t:=by rw[<-Array.getElem?_toList,hts];rfl
 have hat2:c.argTypes[1]? =some t2:=by rw[<-Array.getElem?_toList,hts];rfl
 have hargs':c.args.map act.eval= #[act.eval s0,act.eval x0]:=by apply Array.ext';simp[hargs]
 have hexec:∀{u:Value} {w':World},(Builtin.append_ c.argTypes o.type #[act.eval s0,act.eval x0]).run P w= .ok u w'->(execOp act.eval o).run P w= .ok (.value u) w':=by intro u w' hu';simp only[execOp,ho,resolve,hc,Sem.run_bind,Sem.run_pure,Result.andThen_ok,invoke,builtin,hargs',hu']
 simp only[aop]at hrun;split at hrun
 ·cases hrun
 ·rename_i new n hsrc;obtain⟨us,hus,hread⟩:=aEP hsrc h2 hr;obtain⟨hl1,hf1⟩:=hread w rfl;obtain⟨hl2,hf2⟩:=hread w.drew rfl;split at hrun
  ·rename_i hsn;rw[hsn]at h1;have hse:act.eval s0= .slice none 0 0:=by generalize act.eval s0=u at h1;cases h1;rfl
   rw[hse]at hexec;split at hrun
   ·rename_i h0;subst h0;cases hrun;have:=iU (w':=w) (ty:=o.type) (base:=none) (m:=0) (cap:=0) hat hat2 hu hu2 hd2 hi hl1 hf1 (by omega) (fun ad h=>by cases h) (fun _=>rfl);exact⟨_,w,ρ,.inl (hexec this),.nilslice,hr,Stp.refl _ _ _⟩
   ·rename_i h0;split at hrun
    ·rename_i hb;obtain⟨b1,b2,b3,b4⟩:=hb;cases hrun;have hold:(Builtin.firstCells i.size 0 (.slice none 0 0)).run P w.drew= .ok ([]:List Value).toArray w.drew:=by simp[Builtin.firstCells]
     have hb2:n<=9223372036854775807:=b2;have hrun':=k7 (ty:=o.type) (base:=none) (m:=0) (cap:=0) (olds:=[]) hat hat2 hu hu2 hd2 hi hzero hl1 hf2 hold (by omega) (by omega) (by rw[Nat.zero_add];exact b1);have hge:=grownCap_ge w (0+n) 0 e;have hcm:=grownCap_le_maxLen w (0+n) 0 e (by unfold maxLen;omega);rw[Nat.zero_add]at hrun' hge hcm;have hd:=HR.heap (w':=w.drew) hr rfl;have hds:=Stp.heap (ρ:=ρ) (h:=h) (w:=w) (w':=w.drew) rfl rfl rfl rfl;obtain⟨ρ',g1,g2,g3⟩:=yK (e:=e) (size:=i.size) (n:=n) (cap':=grownCap w n 0 e) (zs:=(Builtin.zeroCells zu.cells (grownCap w n 0 e-n)).toList) hd (hfr _ (Nat.le_refl _) (by simp)) hus (by rw[hus.1];exact b4) (by simp[gA,hzl]) hge hcm;refine⟨_,_,ρ',.inl (hexec hrun'),g3,?_,?_⟩
     ·simpa using g1
     ·have:=hds.trans g2 (Ev.refl h) (Ev.alloc h _) hfr;simpa using this
    ·cases hrun
  ·rename_i fl sz b j m hsn;rw[hsn]at h1;obtain⟨ad,cap,hse,q1,q2,q3,q4⟩:=h1.slice_inv;rw[hse]at hexec;split at hrun
   ·rename_i h0;subst h0;cases hrun;have hnil:us=[]:=by
     have:=hf1;have hz0:us.length=0:=by
      have hl0:new.length=0:=by
       unfold fY at hsrc;split at hsrc
       ·cases hsrc;rfl
       ·split at hsrc
        ·split at hsrc
         ·rename_i cs hcs;cases hsrc;obtain⟨_,_,_,_,_,e'⟩:=cJ hcs;rw[e'];simp
         ·cases hsrc
        ·cases hsrc
       ·rename_i s' _;split at hsrc
        ·simp only[Option.some.injEq,Prod.mk.injEq]at hsrc;obtain⟨rfl,h0⟩:=hsrc;rw[List.length_map,Array.length_toList];exact h0
        ·cases hsrc
       ·cases hsrc
      rw[hus.1];exact hl0
     exact List.length_eq_zero_iff.1 hz0
    subst hnil;have:=iU (w':=w) (ty:=o.type) (base:=some ad) (m:=m) (cap:=cap) hat hat2 hu hu2 hd2 hi hl1 hf1 (by omega) (fun ad' h=>by simp[storeCells]) (fun h=>by cases h);exact⟨_,w,ρ,.inl (hexec this),by rw[hse]at h1;simpa using h1,hr,Stp.refl _ _ _⟩
   ·rename_i h0;split at hrun
    ·rename_i hb;obtain⟨rfl,b1,b2,b3,b4⟩:=hb;have hb2:m+n<=9223372036854775807:=b2;split at hrun
     ·cases hrun
     ·rename_i old hold;obtain⟨ver,rw,all,hg,hn',eold⟩:=cJ hold;have holdl:old.length=m*i.size:=by rw[eold];simp;omega
      --the old cells
      have hols:∃olds,VRs ρ old olds/\∀w',w'.heap=w.heap->(Builtin.firstCells i.size m (.slice (some ad) m cap)).run P w'= .ok olds.toArray w':=by
       by_cases hm0:m*i.size=0
       ·have:old=[]:=List.length_eq_zero_iff.1 (by omega);subst this;refine⟨[],VRs.nil ρ,fun w' _=>?_⟩;have:=dN (P:=P) (w':=w') (size:=i.size) (n:=m) (ad:=ad) (len:=m) (cap:=cap) (us:=[]) (by simp[hm0]) (fun j u hu=>by simp at hu);simpa using this
       ·have hcap:0<cap:=by rcases Nat.eq_zero_or_pos cap with hz | hz;exact absurd (by rw[show m=0 from by omega,Nat.zero_mul]) hm0;exact hz
        obtain⟨l,hl,rfl,_⟩:=q4 hcap;obtain⟨us0,g1,g2,g3⟩:=(hr.obj b l _ hl hg).cells hn' eold;refine⟨us0,g1,fun w' hw'=>dN g2 (fun j u hu=>?_)⟩;rw[Addr.add_mk];have:=g3 j u hu;simpa [World.cell?,hw']using this
      obtain⟨olds,hov,horead⟩:=hols;have grow:cap<m+n->∀(h1:H),HR P ρ h1 w->Stp ρ h w ρ h1 w->Ev h h1->h1.next=h.next->(v= .slice false i.size h1.next 0 (m+n))->h'=h1.alloc (.cells 0 true (old++new))->EF P ρ h w ((execOp act.eval o).run P w) v h':=by
       intro hlt h1 hr1 hs1 hev hnx hv hh;subst hv;subst hh;have hrun':=k7 (ty:=o.type) (base:=some ad) (m:=m) (cap:=cap) hat hat2 hu hu2 hd2 hi hzero hl1 (by exact hf2) (horead w.drew rfl) hlt hb2 b1;have hge:=grownCap_ge w (m+n) cap e;have hcm:=grownCap_le_maxLen w (m+n) cap e (by unfold maxLen;omega);have hd:=HR.heap (w':=w.drew) hr1 rfl;have hds:=Stp.heap (ρ:=ρ) (h:=h1) (w:=w) (w':=w.drew) rfl rfl rfl rfl;obtain⟨ρ',g1,g2,g3⟩:=yK (e:=e) (size:=i.size) (n:=m+n) (cap':=grownCap w (m+n) cap e) (us:=olds++us) (zs:=(Builtin.zeroCells zu.cells (grownCap w (m+n) cap e-(m+n))).toList) hd (hfr _ (by omega) (by simp)) (hov.append hus)
        (by rw[List.length_append,hov.1,hus.1,holdl,b4,Nat.add_mul]) (by simp[gA,hzl]) hge hcm
       refine⟨_,_,ρ',.inl (hexec hrun'),g3,?_,?_⟩
       ·simpa using g1
       ·have t1:=hds.trans g2 (Ev.refl h1) (Ev.alloc h1 _) (fun y hy1 hy2=>hfr y (by omega) hy2);have:=hs1.trans t1 hev (Ev.alloc h1 _) hfr;simpa using this
      split at hrun
      ·rename_i hfl;cases hrun;have:=q3 hfl;exact grow (by clear q4 grow;omega) h hr (Stp.refl _ _ _) (Ev.refl h) rfl rfl rfl
      ·rename_i hfl;split at hrun
       ·rename_i h1 hk;cases hrun;unfold kill at hk;rw[hg]at hk
        cases rw with
        | false=>simp at hk
        | true=>
         simp at hk;subst hk;obtain⟨k1,k2⟩:=HR.kill hr hg;by_cases hroom:m+n<=cap
         ·have hcap:0<cap:=by clear q4 grow;omega
          obtain⟨l,hl,rfl,hlim⟩:=q4 hcap;obtain⟨cc,fz,ee,g1,g2,g4,g5,g6⟩:=hr.obj b l _ hl hg;have:=g5 rfl;subst this;have hunl:us.length=n*i.size:=by rw[hus.1];exact b4
          have hle:l.base+j+m*i.size+us.length<=cc.size:=by rw[hunl,g2,Nat.add_assoc,<-Nat.add_mul];have:=Nat.mul_le_mul_right i.size hroom;omega
          have hone:∀y∈us,y.oneCell'=true:=by
           intro y hy;obtain⟨q,hq,e'⟩:=List.getElem_of_mem hy;have hq':q<new.length:=by rw[<-hus.1];exact hq
           have:=hus.2 q new[q] y (List.getElem?_eq_getElem hq') (by rw[<-e'];exact List.getElem?_eq_getElem hq);exact this.one (List.all_eq_true.1 b3 _ (List.getElem_mem hq'))
          have hst:=run_storeCells_at P l.blk (l.base+j+m*i.size) ee us 0 cc w g1 (by omega) hone;have hrun':=iU (w':=w.setRow l.blk (cc.toList.take (l.base+j+m*i.size+0)++us++cc.toList.drop (l.base+j+m*i.size+0+us.length)).toArray) (ty:=o.type) (base:=some ⟨l.blk,l.base+j,none⟩) (m:=m) (cap:=cap) hat hat2 hu hu2 hd2 hi hl1 hf1 hroom
           (fun ad' e'=>by cases e';rw[Addr.add_mk];exact hst) (fun h=>by cases h)
          have hcl:(cc.toList.take (l.base+j+m*i.size+0)++us++cc.toList.drop (l.base+j+m*i.size+0+us.length)).length=cc.size:=by simp;omega
          have hfr':ρ h.next=none:=hfr _ (Nat.le_refl _) (by simp);have hor:OR P (upd ρ h.next ⟨l.blk,l.base+j,l.lim⟩) (w.setRow l.blk (cc.toList.take (l.base+j+m*i.size+0)++us++cc.toList.drop (l.base+j+m*i.size+0+us.length)).toArray) ⟨l.blk,l.base+j,l.lim⟩ (.cells 0 true (old++new)):=by
           refine⟨_,(0,0),ee,setRow_heap w l.blk cc _ ee (0,0) g1,by rw[List.size_toArray,hcl];exact g2,?_,fun _=>rfl,fun q y hy=>?_⟩
           ·rw[List.size_toArray,hcl,List.length_append,holdl,b4];simp only;omega
           ·have hs:=gD (l:=⟨l.blk,l.base+j,l.lim⟩) hfr';simp only[Nat.add_zero,List.getElem?_toArray];rw[List.getElem?_append]at hy;by_cases c1:q<old.length
            ·rw[if_pos c1]at hy;rw[List.getElem?_append_left (by simp;omega),List.getElem?_append_left (by simp;omega),List.getElem?_take,if_pos (by omega),Array.getElem?_toList];rw[eold,List.getElem?_take,if_pos (by omega),List.getElem?_drop]at hy;obtain⟨u,hu',hv'⟩:=g6 _ y hy;exact⟨u,by rw[<-hu'];congr 1;omega,hv'.mono hs⟩
            ·rw[if_neg c1]at hy;have hq:q-old.length<new.length:=(List.getElem?_eq_some_iff.1 hy).1;rw[List.getElem?_append_left (by simp;omega),List.getElem?_append_right (by simp;omega)];obtain⟨u,hu',hv'⟩:=hus.getElem hy;refine⟨u,?_,hv'.mono hs⟩;rw[<-hu'];congr 1;simp;omega
          obtain⟨m1,m2⟩:=HR.moved (w':=w.setRow l.blk (cc.toList.take (l.base+j+m*i.size+0)++us++cc.toList.drop (l.base+j+m*i.size+0+us.length)).toArray) hr hfr' hl hg (l':=⟨l.blk,l.base+j,l.lim⟩) rfl (by simp) rfl rfl rfl (fun k hk=>setRow_other w _ _ _ hk) hor;refine⟨_,_,_,.inl (hexec hrun'),?_,m1,m2⟩;refine .slice false i.size h.next 0 (m+n) cap _ hroom q2 (fun h=>by cases h) (fun _=>⟨_,aV _ _ _,rfl,?_⟩);simp only;omega
         ·exact grow (by clear q4 grow;omega) _ k1 k2 (Ev.kill hg) rfl rfl rfl
       ·cases hrun
    ·cases hrun
  ·cases hrun
theorem MZ{c:Call}(ho:o.op= .call c)(hc:c.callee= .builtin .append){size bytes:Nat}{s x:AR}(htr:aS P o=some (.append size bytes s x))(hrun:aop a h (.append size bytes s x)=some (v,h',rd))(ht:Ops ρ a act (AO.append size bytes s x).uses)(hr:HR P ρ h w)
  (hfr:∀y,h.next<=y->y<h'.next->ρ y=none):EF P ρ h w ((execOp act.eval o).run P w) v h':=by
 simp only[aS,ho,hc]at htr;unfold fX at htr;split at htr
 ·rename_i t t2 ts s0 x0 _ hts hargs;split at htr
  ·rename_i e e2 s1 x1 hu hu2 hs1 hx1;split at htr
   ·rename_i i z hi hz;split at htr
    ·rename_i hcond;simp only[Bool.and_eq_true,decide_eq_true_eq]at hcond;cases htr;exact mW ho hc hts hargs hu hu2 (.inl ⟨_,rfl⟩) hs1 hx1 hi hz hcond hrun ht hr hfr
    ·cases htr
   ·cases htr
  ·rename_i e s1 x1 hu hu2 hs1 hx1;split at htr
   ·rename_i i z hi hz;split at htr
    ·rename_i hcond;simp only[Bool.and_eq_true,decide_eq_true_eq]at hcond;cases htr;exact mW ho hc hts hargs hu hu2 (.inr rfl) hs1 hx1 hi hz hcond hrun ht hr hfr
    ·cases htr
   ·cases htr
  ·split at htr
   ·split at htr<;>cases htr
   ·cases htr
  ·cases htr
 all_goals (first | contradiction | (cases htr;done) | (split at htr<;>first | (cases htr;done) | skip))
 all_goals (first | (cases htr;done) | skip)
theorem aAw{c:Call}(ho:o.op= .call c)(hc:c.callee= .builtin .copy){size:Nat}{d x:AR}(htr:aS P o=some (.copyS size d x))(hrun:aop a h (.copyS size d x)=some (v,h',rd))(ht:Ops ρ a act (AO.copyS size d x).uses)(hr:HR P ρ h w):
  EF P ρ h w ((execOp act.eval o).run P w) v h':=by
 simp only[aS,ho,hc]at htr;unfold fX at htr;split at htr;all_goals (first | contradiction | (cases htr;done) | skip)
 all_goals (first | (split at htr<;>first | (cases htr;done) | skip) | skip)
 all_goals (first | (split at htr<;>first | (cases htr;done) | skip) | skip)
 rename_i t t2 ts d0 x0 _ hts hargs _ _ _ _ e e2 d1 x1 hu hu2 hd1 hx1 _ i hi;split at htr
 ·rename_i hcond;cases htr;simp only[AO.uses]at ht;have h1:=aN hd1 ht.left;have h2:=aN hx1 ht.right;have hat:c.argTypes[0]? =some t:=by rw[<-Array.getElem?_toList,hts];rfl
  have hargs':c.args.map act.eval= #[act.eval d0,act.eval x0]:=by apply Array.ext';simp[hargs]
  have hexec:∀{u:Value} {w':World},(Builtin.copy_ c.argTypes o.type #[act.eval d0,act.eval x0]).run P w= .ok u w'->(execOp act.eval o).run P w= .ok (.value u) w':=by intro u w' hu';simp only[execOp,ho,resolve,hc,Sem.run_bind,Sem.run_pure,Result.andThen_ok,invoke,builtin,hargs',hu']
  simp only[aop]at hrun;split at hrun
  ·rename_i fl sz b j m fl2 sz2 b2 j2 n e1 e3;rw[e1]at h1;rw[e3]at h2;obtain⟨ad,cap,hse,q1,q2,q3,q4⟩:=h1.slice_inv;obtain⟨ad2,cap2,hse2,r1,r2,r3,r4⟩:=h2.slice_inv;rw[hse,hse2]at hexec;split at hrun
   ·rename_i hsz;obtain⟨rfl,rfl⟩:=hsz;have hcopy:∀{us:List Value} {w':World},(Builtin.firstCells i.size (min n m) (.slice (some ad2) n cap2)).run P w= .ok us.toArray w->(storeCells ad us).run P w= .ok () w'->
      (Builtin.copy_ c.argTypes o.type #[.slice (some ad) m cap,.slice (some ad2) n cap2]).run P w= .ok (.int .i64 ((min n m:Nat):Int)) w':=by
     intro us w' g1 g2;have g1':(Builtin.firstCells i.size (Nat.min n m) (.slice (some ad2) n cap2)).run P w= .ok us.toArray w:=g1;simp[Builtin.copy_,hat,run_underlying hu,sizeOf,typeInfo,hi,Builtin.lenOf,g1',g2,goInt]
    split at hrun
    ·rename_i hk;cases hrun;have hf:(Builtin.firstCells i.size (min n m) (.slice (some ad2) n cap2)).run P w= .ok ([]:List Value).toArray w:=dN (by simp[hk]) (fun j u hu=>by simp at hu);have:=hcopy hf (w':=w) (by simp[storeCells]);rw[hk]at this;exact⟨_,w,ρ,.inl (hexec this),.int _ _,hr,Stp.refl _ _ _⟩
    ·rename_i hk;split at hrun
     ·rename_i cs hcs;split at hrun
      ·rename_i h'' hput;cases hrun;obtain⟨ver,rw,all,hg,hn,e⟩:=cJ hcs;obtain⟨l2,hl2,rfl,_⟩:=r4 (by omega);obtain⟨l,hl,rfl,_⟩:=q4 (by omega);obtain⟨us,k1,k2,k3⟩:=(hr.obj b2 l2 _ hl2 hg).cells hn e;have hf:(Builtin.firstCells i.size (min n m) (.slice (some ⟨l2.blk,l2.base+j2,none⟩) n cap2)).run P w= .ok us.toArray w:=dN k2 (fun q u hu=>by
        rw[Addr.add_mk];exact k3 q u hu)
       have hall:cs.all AV.one=true:=by
        unfold dG at hput;split at hput
        ·split at hput
         ·rename_i hc;simp only[Bool.and_eq_true]at hc;exact hc.2
         ·cases hput
        ·cases hput
       have hone:∀y∈us,y.oneCell'=true:=by
        intro y hy;obtain⟨q,hq,e'⟩:=List.getElem_of_mem hy;have hq':q<cs.length:=by rw[<-k1.1];exact hq
        have:=k1.2 q cs[q] y (List.getElem?_eq_getElem hq') (by rw[<-e'];exact List.getElem?_eq_getElem hq);exact this.one (List.all_eq_true.1 hall _ (List.getElem_mem hq'))
       obtain⟨w',s1,s2,s3⟩:=wX hr hl hput k1 hone;exact⟨_,w',ρ,.inl (hexec (hcopy hf s1)),.int _ _,s2,s3⟩
      ·cases hrun
     ·cases hrun
   ·cases hrun
  ·rename_i e1 e3;cases hrun;rw[e1]at h1;rw[e3]at h2;have hse:act.eval d0= .slice none 0 0:=by generalize act.eval d0=u at h1;cases h1;rfl
   have hse2:act.eval x0= .slice none 0 0:=by generalize act.eval x0=u at h2;cases h2;rfl
   rw[hse,hse2]at hexec;exact⟨_,w,ρ,.inl (hexec (u:= .int .i64 0) (by simp[Builtin.copy_,hat,run_underlying hu,sizeOf,typeInfo,hi,Builtin.lenOf,Builtin.firstCells,goInt])),.int _ _,hr,Stp.refl _ _ _⟩
  ·rename_i fl2 sz2 b2 j2 n e1 e3;cases hrun;rw[e1]at h1;rw[e3]at h2;have hse:act.eval d0= .slice none 0 0:=by generalize act.eval d0=u at h1;cases h1;rfl
   obtain⟨ad2,cap2,hse2,r1,r2,r3,r4⟩:=h2.slice_inv;rw[hse,hse2]at hexec;have hf:(Builtin.firstCells i.size 0 (.slice (some ad2) n cap2)).run P w= .ok ([]:List Value).toArray w:=dN (by simp) (fun j u hu=>by simp at hu);exact⟨_,w,ρ,.inl (hexec (u:= .int .i64 0) (by simp[Builtin.copy_,hat,run_underlying hu,sizeOf,typeInfo,hi,Builtin.lenOf,hf,goInt])),.int _ _,hr,Stp.refl _ _ _⟩
  ·rename_i fl sz b j m e1 e3;cases hrun;rw[e1]at h1;rw[e3]at h2;obtain⟨ad,cap,hse,q1,q2,q3,q4⟩:=h1.slice_inv;have hse2:act.eval x0= .slice none 0 0:=by generalize act.eval x0=u at h2;cases h2;rfl
   rw[hse,hse2]at hexec;exact⟨_,w,ρ,.inl (hexec (u:= .int .i64 0) (by simp[Builtin.copy_,hat,run_underlying hu,sizeOf,typeInfo,hi,Builtin.lenOf,Builtin.firstCells,storeCells,goInt])),.int _ _,hr,Stp.refl _ _ _⟩
  ·cases hrun
 ·cases htr
theorem UN{c:Call}(ho:o.op= .call c)(hc:c.callee= .builtin .clear){z:List AV}{x:AR}(htr:aS P o=some (.clearS z x))(hrun:aop a h (.clearS z x)=some (v,h',rd))(ht:Ops ρ a act (AO.clearS z x).uses)(hr:HR P ρ h w):
  EF P ρ h w ((execOp act.eval o).run P w) v h':=by
 simp only[aS,ho,hc]at htr;unfold fX at htr;split at htr;all_goals (first | contradiction | (cases htr;done) | skip)
 all_goals (first | (split at htr<;>first | (cases htr;done) | skip) | skip)
 all_goals (first | (split at htr<;>first | (cases htr;done) | skip) | skip)
 rename_i t ts x0 _ hts hargs _ _ e x1 hu hx1 _ _ i z0 hi hz;split at htr
 ·rename_i hcond;simp only[Bool.and_eq_true,decide_eq_true_eq]at hcond;cases htr;simp only[AO.uses]at ht;have h1:=aN hx1 ht;obtain⟨zu,i',hi',hzero,hrz,hop⟩:=fZ hz;rw[hi]at hi';cases hi';have hzl:zu.cells.size=i.size:=by have:=dO hop;simp at this;omega
  have hat:c.argTypes[0]? =some t:=by rw[<-Array.getElem?_toList,hts];rfl
  have hargs':c.args.map act.eval= #[act.eval x0]:=by apply Array.ext';simp[hargs]
  have hexec:∀{u:Value} {w':World},(Builtin.clear_ c.argTypes o.type #[act.eval x0]).run P w= .ok u w'->(execOp act.eval o).run P w= .ok (.value u) w':=by intro u w' hu';simp only[execOp,ho,resolve,hc,Sem.run_bind,Sem.run_pure,Result.andThen_ok,invoke,builtin,hargs',hu']
  simp only[aop]at hrun;split at hrun
  ·rename_i he;cases hrun;rw[he]at h1;have hse:act.eval x0= .slice none 0 0:=by generalize act.eval x0=u at h1;cases h1;rfl
   rw[hse]at hexec;exact⟨_,w,ρ,.inl (hexec (by simp[Builtin.clear_,hat,run_underlying hu])),(VRs.nil ρ).tuplev,hr,Stp.refl _ _ _⟩
  ·rename_i fl sz b j n he;rw[he]at h1;obtain⟨ad,cap,hse,q1,q2,q3,q4⟩:=h1.slice_inv;rw[hse]at hexec;split at hrun
   ·rename_i hsz;split at hrun
    ·rename_i hn;subst hn;cases hrun;exact⟨_,w,ρ,.inl (hexec (by simp[Builtin.clear_,hat,run_underlying hu])),(VRs.nil ρ).tuplev,hr,Stp.refl _ _ _⟩
    ·rename_i hn;split at hrun
     ·rename_i h'' hput;cases hrun;obtain⟨l,hl,rfl,_⟩:=q4 (by omega);have hrow:VRs ρ (fE n z) (Builtin.zeroCells zu.cells n).toList:=by
       have:=mO (n:=n) (d7 (ρ:=ρ) hop).1 (by omega);simpa [Builtin.zeroCells]using this
      have hall:(fE n z).all AV.one=true:=by
       unfold dG at hput;split at hput
       ·split at hput
        ·rename_i hc;simp only[Bool.and_eq_true]at hc;exact hc.2
        ·cases hput
       ·cases hput
      have hone:∀y∈(Builtin.zeroCells zu.cells n).toList,y.oneCell'=true:=by
       intro y hy;obtain⟨q,hq,e'⟩:=List.getElem_of_mem hy;have hq':q<(fE n z).length:=by rw[<-hrow.1];exact hq
       have:=hrow.2 q (fE n z)[q] y (List.getElem?_eq_getElem hq') (by rw[<-e'];exact List.getElem?_eq_getElem hq);exact this.one (List.all_eq_true.1 hall _ (List.getElem_mem hq'))
      obtain⟨w',s1,s2,s3⟩:=wX hr hl hput hrow hone;refine⟨_,w',ρ,.inl (hexec ?_),(VRs.nil ρ).tuplev,s2,s3⟩;obtain⟨n',rfl⟩:∃n',n=n'+1:=⟨n-1,by omega⟩;simp[Builtin.clear_,hat,run_underlying hu,hrz,s1]
     ·cases hrun
   ·cases hrun
  ·cases hrun
 ·cases htr
theorem nK{b i:Nat}{new:List AV}(hp:dG h b i new=some h'):Ev h h':=by
 unfold dG at hp;split at hp
 ·rename_i ver cs hg;split at hp
  ·cases hp;exact Ev.set hg (.inr (.inr ⟨ver,ver+1,rfl,rfl,by omega,rfl,rfl,rfl⟩)) rfl
  ·cases hp
 ·cases hp
theorem aCT{b:Nat}(hp:kill h b=some h'):Ev h h':=by
 unfold kill at hp;split at hp
 ·rename_i ver cs hg;cases hp;exact Ev.kill hg
 ·cases hp
theorem aF5(hrun:aop a h ao=some (v,h',rd)):Ev h h':=by
 cases ao<;>simp only[aop]at hrun
 case append=>
  split at hrun
  ·cases hrun
  ·split at hrun
   ·split at hrun
    ·cases hrun;exact Ev.refl h
    ·split at hrun
     ·cases hrun;exact Ev.alloc h _
     ·cases hrun
   ·split at hrun
    ·cases hrun;exact Ev.refl h
    ·split at hrun
     ·split at hrun
      ·cases hrun
      ·split at hrun
       ·cases hrun;exact Ev.alloc h _
       ·split at hrun
        ·rename_i hk;cases hrun;exact(aCT hk).trans (Ev.alloc _ _)
        ·cases hrun
     ·cases hrun
   ·cases hrun
 case store=>
  split at hrun
  ·split at hrun
   ·split at hrun
    ·rename_i hp;cases hrun;exact nK hp
    ·cases hrun
   ·cases hrun
  ·cases hrun
 case mapUpdate=>
  split at hrun
  ·split at hrun
   ·rename_i hg;split at hrun
    ·cases hrun;exact Ev.set hg (.inr (.inr ⟨_,_,rfl,rfl,Nat.lt_succ_self _,rfl,rfl,rfl⟩)) rfl
    ·cases hrun
   ·cases hrun
  ·cases hrun
 case copyS=>
  repeat' split at hrun
  all_goals (first | (cases hrun;done) | (cases hrun;first | exact Ev.refl h | (rename_i hp;exact nK hp)))
 case clearS=>
  repeat' split at hrun
  all_goals (first | (cases hrun;done) | (cases hrun;first | exact Ev.refl h | (rename_i hp;exact nK hp)))
 all_goals (repeat' split at hrun)
 all_goals (first | (cases hrun;first | exact Ev.refl h | exact Ev.alloc h _) | (exact absurd hrun (by simp)))
theorem F5(htr:aS P o=some ao)(heff:ao.effect=true):(∃t p x,o.op= .store t p x)\/(∃t m k x,o.op= .mapUpdate t m k x\/o.op= .insert t m k x)\/(∃c,o.op= .call c)\/∃s d x,o.op= .convert s d x:=by
 cases ho:o.op with
 | convert s d x=>exact .inr (.inr (.inr ⟨s,d,x,rfl⟩))
 | store t p x=>exact .inl ⟨t,p,x,rfl⟩
 | mapUpdate t m k x=>exact .inr (.inl ⟨t,m,k,x,.inl rfl⟩)
 | insert t m k x=>exact .inr (.inl ⟨t,m,k,x,.inr rfl⟩)
 | call c=>exact .inr (.inr (.inl ⟨c,rfl⟩))
 | makeMap t r=>
  cases r with
  | none=>simp only[aS,ho]at htr;cases htr;simp[AO.effect]at heff
  | some r=>simp[aS,ho]at htr
 | _=>
  exfalso;simp only[aS,ho,Option.map_eq_some_iff]at htr;all_goals (repeat' split at htr)
  all_goals (try unfold oS at htr)
  all_goals (repeat' split at htr)
  all_goals (first | (cases htr;done) | (cases htr;simp[AO.effect]at heff;done) | (simp only[Option.map_eq_some_iff]at htr;obtain⟨_,_,rfl⟩:=htr;simp[AO.effect]at heff;done) | (obtain⟨_,_,rfl⟩:=htr;simp[AO.effect]at heff;done))
theorem yV{c:Call}(ho:o.op= .call c)(hc:c.callee= .builtin .append){bytes:Nat}{z:List AV}{s x:AR}(htr:aS P o=some (.appendMake bytes z s x))(hrun:aop a h (.appendMake bytes z s x)=some (v,h',rd))(ht:Ops ρ a act (AO.appendMake bytes z s x).uses)(hr:HR P ρ h w)
  (hfr:∀y,h.next<=y->y<h'.next->ρ y=none):EF P ρ h w ((execOp act.eval o).run P w) v h':=by
 simp only[aS,ho,hc]at htr;unfold fX at htr;split at htr
 ·rename_i t t2 ts s0 x0 _ hts hargs;split at htr
  ·split at htr
   ·split at htr<;>cases htr
   ·cases htr
  ·split at htr
   ·split at htr<;>cases htr
   ·cases htr
  ·rename_i e kd s1 x1 hu hu2 hs1 hx1;split at htr
   ·rename_i i z' hi hz;split at htr
    ·rename_i hcond;simp only[Bool.and_eq_true,decide_eq_true_eq]at hcond;cases htr;simp only[AO.uses]at ht;have h1:=aN hs1 ht.left;have h2:=aN hx1 ht.right;obtain⟨zu,i',hi',hzero,hrz,hop⟩:=fZ hz;rw[hi]at hi';cases hi';have hzl:zu.cells.size=i.size:=by have:=dO hop;simp at this;omega
     have hat:c.argTypes[0]? =some t:=by rw[<-Array.getElem?_toList,hts];rfl
     have hat2:c.argTypes[1]? =some t2:=by rw[<-Array.getElem?_toList,hts];rfl
     have hargs':c.args.map act.eval= #[act.eval s0,act.eval x0]:=by apply Array.ext';simp[hargs]
     have hexec:∀{u:Value} {w':World},(Builtin.append_ c.argTypes o.type #[act.eval s0,act.eval x0]).run P w= .ok u w'->(execOp act.eval o).run P w= .ok (.value u) w':=by intro u w' hu';simp only[execOp,ho,resolve,hc,Sem.run_bind,Sem.run_pure,Result.andThen_ok,invoke,builtin,hargs',hu']
     simp only[aop]at hrun;split at hrun
     ·rename_i n e1 e2;rw[e1]at h1;rw[e2]at h2;have hse:act.eval s0= .slice none 0 0:=by generalize act.eval s0=u at h1;cases h1;rfl
      rw[hse,h2.int_inv]at hexec;split at hrun
      ·rename_i h0;subst h0;cases hrun;refine⟨_,w,ρ,.inl (hexec (u:= .slice none 0 0) (w':=w) ?_),.nilslice,hr,Stp.refl _ _ _⟩;have hw0:IntKind.i64.wrap 0=0:=by decide
       simp[Builtin.append_,hat,hat2,run_underlying hu,run_underlying hu2,sizeOf,typeInfo,hi,asInt,asIntOf,hw0]
      ·rename_i h0;split at hrun
       ·rename_i hb;obtain⟨b1,b2,b3⟩:=hb;cases hrun;obtain⟨n,rfl⟩:=Int.eq_ofNat_of_zero_le b1;have b2':n*i.bytes<=140737488355328:=by
         have:((n*i.bytes:Nat):Int)<=140737488355328:=by rw[Int.natCast_mul];exact b2
         omega
        have b3':n<=9223372036854775807:=by unfold eK at b3;omega
        have hrun':=vD (w:=w) (ty:=o.type) hat hat2 hu hu2 hi hzero hcond.2 (by omega) b3' b2';have hge:=grownCap_ge w n 0 e;have hcm:=grownCap_le_maxLen w n 0 e (by unfold maxLen;omega);have hd:=HR.heap (w':=w.drew) hr rfl;have hds:=Stp.heap (ρ:=ρ) (h:=h) (w:=w) (w':=w.drew) rfl rfl rfl rfl;have hrow:VRs ρ (fE n z) (Builtin.zeroCells zu.cells n).toList:=by
         have:=mO (n:=n) (d7 (ρ:=ρ) hop).1 (by omega);simpa [Builtin.zeroCells]using this
        obtain⟨ρ',g1,g2,g3⟩:=yK (e:=e) (size:=i.size) (n:=n) (cap':=grownCap w n 0 e) (zs:=(Builtin.zeroCells zu.cells (grownCap w n 0 e-n)).toList) hd (hfr _ (Nat.le_refl _) (by simp)) hrow (by simp[gA,hzl]) (by simp[gA,hzl]) hge hcm;have hsz:z.length=i.size:=hcond.1.symm;refine⟨_,_,ρ',.inl (hexec hrun'),?_,?_,?_⟩
        ·simpa [hsz]using g3
        ·simpa using g1
        ·have:=hds.trans g2 (Ev.refl h) (Ev.alloc h _) hfr;simpa using this
       ·cases hrun
     ·cases hrun
    ·cases htr
   ·cases htr
  ·cases htr
 all_goals (repeat' split at htr)
 all_goals (first | (cases htr;done) | (simp at htr;done))
theorem pA{b:Builtin}{ts:List TypeId}{args:List Operand}(htr:fX P b ts args=some ao)(heff:ao.effect=true):
  (b= .append/\∃size bytes s x,ao= .append size bytes s x)\/(b= .append/\∃bytes z s x,ao= .appendMake bytes z s x)\/(b= .copy/\∃size d x,ao= .copyS size d x)\/(b= .clear/\∃z x,ao= .clearS z x):=by
 unfold fX at htr;split at htr
 ·repeat' split at htr
  all_goals (first | (cases htr;done) | (cases htr;exact .inl ⟨rfl,_,_,_,_,rfl⟩) | (cases htr;exact .inr (.inl ⟨rfl,_,_,_,_,rfl⟩)))
 all_goals (repeat' split at htr)
 all_goals (first | (cases htr;done) | (cases htr;exact .inr (.inr (.inl ⟨rfl,_,_,_,rfl⟩))) | (cases htr;exact .inr (.inr (.inr ⟨rfl,_,_,rfl⟩))) | (cases htr;simp[AO.effect]at heff))
theorem HR.add{w':World}{ob:AObj}{l:Loc}(hr:HR P ρ h w)(hfr:ρ h.next=none)(hb:RowKit.Below w.heap.size w w')(hl:w.heap.size<=l.blk)(hlt:l.blk<w'.heap.size)
  (ho:OR P (upd ρ h.next l) w' l ob):HR P (upd ρ h.next l) (h.alloc ob) w'/\Stp ρ h w (upd ρ h.next l) (h.alloc ob) w':=by
 have old:∀b,b<w.heap.size->w'.heap[b]? =w.heap[b]? :=fun b hb'=>hb.block b hb';have hs:=gD (l:=l) hfr;refine⟨⟨hr.gat.keep fun b l hb hlt=>old b hlt,fun b l' hb0 x lx ox hx hg hrw=>?_,fun x lx hx=>?_,fun x lx ox hx hg=>?_,fun x y lx ly ox oy hx hy hgx hgy hrx hly hne=>?_⟩,⟨hs,fun x lx hx=>?_,fun x lx hx=>?_,hb.size,hb.os,hb.tape,hb.output,fun b hb _=>old b hb⟩⟩
 ·by_cases e:x=h.next
  ·subst e;rw[aV]at hx;cases hx;have:=hr.gat.lt hb0;omega
  ·rw[bJ e]at hx;rw[H.get_alloc,if_neg e]at hg;exact hr.goff b l' hb0 x lx ox hx hg hrw
 ·by_cases e:x=h.next
  ·subst e;rw[aV]at hx;cases hx;exact hlt
  ·rw[bJ e]at hx;have:=hr.bound x lx hx;have:=hb.size;omega
 ·by_cases e:x=h.next
  ·subst e;rw[aV]at hx;cases hx;rw[H.get_alloc_new]at hg;cases hg;exact ho
  ·rw[bJ e]at hx;rw[H.get_alloc,if_neg e]at hg;have h0:=hr.obj x lx ox hx hg
   cases hl:ox.islive with
   | true=>exact h0.mono hs (old _ (h0.lt hl))
   | false=>cases ox<;>first | trivial | (simp[AObj.islive]at hl)
 ·by_cases ex:x=h.next
  ·subst ex;rw[aV]at hx;cases hx;rw[bJ (Ne.symm hne)]at hy;rw[H.get_alloc,if_neg (Ne.symm hne)]at hgy;have:=(hr.obj y ly oy hy hgy).lt hly;omega
  ·rw[bJ ex]at hx;rw[H.get_alloc,if_neg ex]at hgx;by_cases ey:y=h.next
   ·subst ey;rw[aV]at hy;cases hy;have:=(hr.obj x lx ox hx hgx).lt (AObj.live_of_rw hrx);omega
   ·rw[bJ ey]at hy;rw[H.get_alloc,if_neg ey]at hgy;exact hr.inj x y lx ly ox oy hx hy hgx hgy hrx hly hne
 ·by_cases e:x=h.next
  ·subst e;exact .inr ⟨Nat.le_refl _,by simp⟩
  ·rw[bJ e]at hx;exact .inl hx
 ·by_cases e:x=h.next
  ·subst e;rw[aV]at hx;cases hx;exact .inr (.inl hl)
  ·rw[bJ e]at hx;exact .inl hx
theorem yU{s d:TypeId}{x0:Operand}(ho:o.op= .convert s d x0)(htr:aS P o=some ao)(heff:ao.effect=true)(hrun:aop a h ao=some (v,h',rd))(ht:Ops ρ a act ao.uses)(hr:HR P ρ h w)
  (hfr:∀y,h.next<=y->y<h'.next->ρ y=none):EF P ρ h w ((execOp act.eval o).run P w) v h':=by
 simp only[aS,ho]at htr;split at htr
 ·cases htr;simp[AO.effect]at heff
 ·cases htr;simp[AO.effect]at heff
 ·split at htr
  ·cases htr;simp[AO.effect]at heff
  ·cases htr
 ·rename_i e x' hs hd hx;split at htr
  ·rename_i he;cases htr;simp only[AO.uses]at ht;have hxv:=aN hx ht;simp only[aop]at hrun;split at hrun
   ·rename_i s' hev;split at hrun
    ·rename_i hsz;cases hrun;rw[hev]at hxv;have hsz':s'.size<=maxLen:=by unfold maxLen;omega
     have hge:=grownCap_ge w s'.size 0 e;have hcm:=grownCap_le_maxLen w s'.size 0 e hsz';have hexec:(execOp act.eval o).run P w= .ok (.value (.slice (some ⟨w.heap.size,0,none⟩) s'.size (grownCap w s'.size 0 e))) (Lib.bytesWorld w e s'):=by simp only[execOp,ho,hxv.str_inv,Sem.run_bind,Lib.run_convert_string_bytes w s d e s' hs hd he,Result.andThen_ok,Sem.run_pure]
     have hbc:(Lib.bytesCells w e s').size=grownCap w s'.size 0 e:=by have:s'.data.size=s'.size:=rfl;simp[Lib.bytesCells,this];omega
     have hn:=hfr h.next (Nat.le_refl _) (by simp);obtain⟨g1,g2⟩:=HR.add (w':=Lib.bytesWorld w e s') (ob:= .cells 0 false (s'.data.toList.map fun b=> .int .u8 b.toNat)) (l:=⟨w.heap.size,0,(Lib.bytesCells w e s').size⟩) hr hn
      (Lib.bytesWorld_below w e s') (Nat.le_refl _) (by rw[Lib.bytesWorld_size];exact Nat.lt_succ_self _)
      ⟨_,_,_,Lib.bytesWorld_at_new w e s',rfl,by
       have:s'.data.size=s'.size:=rfl;simp[hbc,this];omega,(fun h=>by cases h),fun i v hv=>by
        rw[List.getElem?_map]at hv
        cases hb:s'.data.toList[i]? with
        | none=>rw[hb]at hv;cases hv
        | some b=>
         rw[hb]at hv;cases hv;refine⟨.int .u8 b.toNat,?_,.int _ _⟩;have hi:i<s'.data.size:=by rw[Array.getElem?_toList]at hb;exact(Array.getElem?_eq_some_iff.1 hb).1
         rw[Array.getElem?_toList]at hb;simp[Lib.bytesCells,Array.getElem?_append,hi];rw[if_pos (show i<s'.size from hi),hb];rfl⟩
     refine⟨_,_,_,.inl hexec,.slice false 1 h.next 0 s'.size _ _ hge hcm (fun h=>by cases h) (fun _=>⟨_,aV _ _ _,rfl,?_⟩),g1,g2⟩;simp only[hbc];omega
    ·cases hrun
   ·cases hrun
  ·cases htr
 ·cases htr
theorem aDl(htr:aS P o=some ao)(heff:ao.effect=true)(hnc:∀f args,ao≠ .call f args)(hrun:aop a h ao=some (v,h',rd))(ht:Ops ρ a act ao.uses)(hr:HR P ρ h w)
  (hfr:∀y,h.next<=y->y<h'.next->ρ y=none):EF P ρ h w ((execOp act.eval o).run P w) v h':=by
 rcases F5 htr heff with⟨t,p,x,ho⟩ | ⟨t,m,k,x,ho⟩ | ⟨c,ho⟩ | ⟨s,d,x,ho⟩
 rotate_right
 ·exact yU ho htr heff hrun ht hr hfr
 ·exact UM ho htr hrun ht hr
 ·exact AH ho htr hrun ht hr
 ·cases hc:c.callee with
  | builtin b=>
   have htr':=htr;simp only[aS,ho,hc]at htr';rcases pA htr' heff with⟨rfl,size,bytes,s,x,rfl⟩ | ⟨rfl,bytes,z,s,x,rfl⟩ | ⟨rfl,size,d,x,rfl⟩ | ⟨rfl,z,x,rfl⟩
   ·exact MZ ho hc htr hrun ht hr hfr
   ·exact yV ho hc htr hrun ht hr hfr
   ·exact aAw ho hc htr hrun ht hr
   ·exact UN ho hc htr hrun ht hr
  | value f=>
   simp only[aS,ho,hc]at htr;split at htr
   ·cases htr;exact absurd rfl (hnc _ _)
   ·cases htr
  | invoke r m=>
   simp only[aS,ho,hc]at htr;split at htr
   ·cases htr;exact absurd rfl (hnc _ _)
   ·cases htr
theorem aFU(htr:wS P o=some ao)(heff:ao.effect=true)(hnc:∀f args,ao≠ .call f args)(hrun:aop a h ao=some (v,h',rd))(ht:Ops ρ a act ao.uses)(hr:HR P ρ h w)
  (hfr:∀y,h.next<=y->y<h'.next->ρ y=none):EF P ρ h w ((execOp act.eval o).run P w) v h':=by
 rcases lX _ htr with h0 | ⟨rfl,_⟩
 ·exact aDl h0 heff hnc hrun ht hr hfr
 ·simp[AO.stuck,AO.effect]at heff
end
end Go.Am

