/- Executor. -/
import Derived.Test.YtphemenngjkfbaaRxP
open Bool renaming and_eq_true → ai
open List renaming all_eq_true → agv, getElem?_append_left → agC, getElem?_eq_getElem → ag6, getElem?_eq_none → ag7, map_congr_left → ag4, map_cons → agW, mem_cons_of_mem → agF, mem_cons_self → agA, mem_filter → agP, mem_map → ag9, mem_range → agJ
open List.cons renaming injEq → agO
open Nat renaming blt_eq → agM
open Option renaming map_eq_some_iff → agz
namespace Go.RX
structure gy (c:cF) (ρ bI:Env):Prop where
 b: ∀i,i<c.b→ρ.bv.getD i 0=bI.bv.getD i 0
 v: ∀i,i<c.v→ρ.vv.getD i V1.nil=bI.vv.getD i V1.nil
 i: ∀i,i<c.i→ρ.iv.getD i 0=bI.iv.getD i 0
 a: ∀i,i<c.a→ρ.av.getD i (fun _=>0)=bI.av.getD i (fun _=>0)
 bo: ∀i,i<c.bo→ρ.bo.getD i false=bI.bo.getD i false
 p: ∀i,i<c.p→ρ.pv.getD i HP.emp=bI.pv.getD i HP.emp
 r: ∀i,i<c.r→ρ.lr.getD i iG=bI.lr.getD i iG
 va:ρ.va=bI.va
section
variable {c:cF} {ρ bI:Env}
theorem gy.symm(h:gy c ρ bI):gy c bI ρ:=
 ⟨fun i hi=>(h.b i hi).symm,fun i hi=>(h.v i hi).symm,fun i hi=>(h.i i hi).symm,fun i hi=>(h.a i hi).symm,fun i hi=>(h.bo i hi).symm,fun i hi=>(h.p i hi).symm,fun i hi=>(h.r i hi).symm,h.va.symm⟩
theorem E.b_(h:gy c ρ bI){e:E}(hs:e.sc c=true):e.den ρ=e.den bI:=by
 induction e with
 | lit n=>rfl
 | var i=>simp only [E.sc,agM]at hs;simp only [E.den,h.i i hs]
 | aw i=>simp only [E.sc,agM]at hs;simp only [E.den,h.a i hs]
 | gW a i mV IA=>simp only [E.sc,ai]at hs;simp only [E.den,mV hs.1,IA hs.2]
 | bin o k a b mV tS=>simp only [E.sc,ai]at hs;simp only [E.den,mV hs.1,tS hs.2]
 | wrap k a ih=>simp only [E.sc]at hs;simp only [E.den,ih hs]
 | bP a i v mV IA ZC=>simp only [E.sc,ai]at hs;simp only [E.den,mV hs.1.1,IA hs.1.2,ZC hs.2]
 | shift a o mV Vl=>simp only [E.sc,ai]at hs;simp only [E.den,mV hs.1,Vl hs.2]
 | Eg a o n b mV Vl ihn tS=>simp only [E.sc,ai]at hs;simp only [E.den,mV hs.1.1.1,Vl hs.1.1.2,ihn hs.1.2,tS hs.2]
 | kc n a ih=>simp only [E.sc]at hs;simp only [E.den,ih hs]
 | rT b=>simp only [E.sc,agM]at hs;simp only [E.den,h.b b hs]
 | qw l=>rfl
 | RG a i mV IA=>simp only [E.sc,ai]at hs;simp only [E.den,mV hs.1,IA hs.2]
 | qJ a i s mV IA ZD=>simp only [E.sc,ai]at hs;simp only [E.den,mV hs.1.1,IA hs.1.2,ZD hs.2]
 | TJ s ih=>simp only [E.sc]at hs;simp only [E.den,ih hs]
theorem BE.b_(h:gy c ρ bI){b:BE}(hs:b.sc c=true):b.den ρ=b.den bI:=by
 induction b with
 | lit n=>rfl
 | var i=>simp only [BE.sc,agM]at hs;simp only [BE.den,h.bo i hs]
 | eq a b=>simp only [BE.sc,ai]at hs;simp only [BE.den,E.b_ h hs.1,E.b_ h hs.2]
 | lt a b=>simp only [BE.sc,ai]at hs;simp only [BE.den,E.b_ h hs.1,E.b_ h hs.2]
 | le a b=>simp only [BE.sc,ai]at hs;simp only [BE.den,E.b_ h hs.1,E.b_ h hs.2]
 | nz a=>simp only [BE.sc]at hs;simp only [BE.den,E.b_ h hs]
 | TL n a b=>simp only [BE.sc,ai]at hs;simp only [BE.den,E.b_ h hs.1,E.b_ h hs.2]
 | not a ih=>simp only [BE.sc]at hs;simp only [BE.den,ih hs]
 | and a b mV tS=>simp only [BE.sc,ai]at hs;simp only [BE.den,mV hs.1,tS hs.2]
 | or a b mV tS=>simp only [BE.sc,ai]at hs;simp only [BE.den,mV hs.1,tS hs.2]
 | ite x t e Xk Q_ Rb=>simp only [BE.sc,ai]at hs;simp only [BE.den,Xk hs.1.1,Q_ hs.1.2,Rb hs.2]
 | seq a b=>simp only [BE.sc,ai]at hs;simp only [BE.den,E.b_ h hs.1,E.b_ h hs.2]
theorem BE.gT(h:gy c ρ bI){b:BE}(hs:b.sc c=true):b.prop ρ↔b.prop bI:=by
 rw [←BE.cq,←BE.cq,BE.b_ h hs]
theorem Kp(h:gy c ρ bI)(s:Nat): ∀{cs:List Cut} (v:Value),cs.all (Cut.sc c)=true→dx ρ s v cs=dx bI s v cs
 | [],_,_=>rfl
 | k::r,v,hs=>by
  simp only [List.all_cons,ai,Cut.sc]at hs;obtain⟨⟨⟨h1,h2⟩,h3⟩,h4⟩:=hs;have hm:(k.mx.map fun m=>(m.den ρ 0).toNat)=k.mx.map fun m=>(m.den bI 0).toNat:=by
   cases hk:k.mx with
   | none=>rfl
   | some m=>
    rw [hk]at h3;simp only [Option.map_some,E.b_ h h3]
  simp only [dx,E.b_ h h1,E.b_ h h2,hm];exact Kp h s _ h4
mutual
theorem SV.wU(h:gy c ρ bI): ∀{v:SV},v.sc c=true→v.val ρ=v.val bI∧v.cells ρ=v.cells bI
 | .int k e,hs=>by simp only [SV.sc]at hs;simp only [SV.val,SV.cells,E.b_ h hs,and_self]
 | .bool b,hs=>by simp only [SV.sc]at hs;simp only [SV.val,SV.cells,BE.b_ h hs,and_self]
 | .dR,_=>⟨rfl,rfl⟩
 | .bY,_=>⟨rfl,rfl⟩
 | .pE,_=>⟨rfl,rfl⟩
 | .uQ,_=>⟨rfl,rfl⟩
 | .iJ,_=>⟨rfl,rfl⟩
 | .undef,_=>⟨rfl,rfl⟩
 | .ptr b n,hs=>by simp only [SV.sc,agM]at hs;simp only [SV.val,SV.cells,h.b b hs,and_self]
 | .qy b i s n,hs=>by simp only [SV.sc,agM,ai]at hs;simp only [SV.val,SV.cells,h.b b hs.1,E.b_ h hs.2,and_self]
 | .pv v i s n,hs=>by simp only [SV.sc,agM,ai]at hs;simp only [SV.val,SV.cells,h.v v hs.1,E.b_ h hs.2,and_self]
 | .sl b i s n m,hs=>by simp only [SV.sc,agM,ai]at hs;simp only [SV.val,SV.cells,h.b b hs.1.1.1,E.b_ h hs.1.1.2,E.b_ h hs.1.2,E.b_ h hs.2,and_self]
 | .vv i,hs=>by simp only [SV.sc,agM]at hs;simp only [SV.val,SV.cells,h.v i hs,and_self]
 | .str l,_=>⟨rfl,rfl⟩
 | .fn f kp,hs=>by simp only [SV.sc]at hs;simp only [SV.val,SV.cells,(SV.gg h hs).1,and_self]
 | .agg cs,hs=>by simp only [SV.sc]at hs;simp only [SV.val,SV.cells,(SV.gg h hs).2,and_self]
 | .a_ k n a,hs=>by simp only [SV.sc]at hs;simp only [SV.val,SV.cells,E.b_ h hs,and_self]
 | .lp vs,hs=>by simp only [SV.sc]at hs;simp only [SV.val,SV.cells,(SV.gg h hs).1,and_self]
 | .opt b v,hs=>by simp only [SV.sc,ai]at hs;simp only [SV.val,SV.cells,BE.b_ h hs.1,(SV.wU h hs.2).1,and_self]
 | .FI a i,hs=>by simp only [SV.sc]at hs;simp only [SV.val,SV.cells,E.b_ h hs,h.va,and_self]
 | .LB l,hs=>by simp only [SV.sc,agM]at hs;simp only [SV.val,SV.cells,h.b l hs,and_self]
 | .mp l,hs=>by simp only [SV.sc,agM]at hs;simp only [SV.val,SV.cells,h.b l hs,and_self]
 | .dh e,hs=>by simp only [SV.sc]at hs;simp only [SV.val,SV.cells,E.b_ h hs,and_self]
 | .Ny e,hs=>by simp only [SV.sc]at hs;simp only [SV.val,SV.cells,E.b_ h hs,and_self]
 | .lZ e,hs=>by simp only [SV.sc]at hs;simp only [SV.val,SV.cells,E.b_ h hs,and_self]
 | .NP t k e,hs=>by simp only [SV.sc]at hs;simp only [SV.val,SV.cells,E.b_ h hs,and_self]
 | .Ia b v,hs=>by simp only [SV.sc,ai,agM]at hs;simp only [SV.val,SV.cells,BE.b_ h hs.1,h.v v hs.2,and_self]
 | .ji v cs s,hs=>by simp only [SV.sc,agM,ai]at hs;simp only [SV.val,SV.cells,h.v v hs.1,Kp h s _ hs.2,and_self]
theorem SV.gg(h:gy c ρ bI): ∀{l:List SV},SV.qz c l=true→SV.bQ ρ l=SV.bQ bI l∧SV.ar ρ l=SV.ar bI l
 | [],_=>⟨rfl,rfl⟩
 | v::r,hs=>by
  simp only [SV.qz,ai]at hs;simp only [SV.bQ,SV.ar,(SV.wU h hs.1).1,(SV.wU h hs.1).2,(SV.gg h hs.2).1,(SV.gg h hs.2).2,and_self]
end
theorem cb.Au(h:gy c ρ bI){k:cb}(hs:k.sc c=true):k.cells ρ=k.cells bI:=by
 obtain⟨ck,w,a⟩:=k;simp only [cb.sc,ai]at hs;have:=E.b_ h hs.1;funext i;cases ck with
 | int q=>simp only [cb.cells];rw [show a.den ρ=a.den bI from this]
 | bool=>simp only [cb.cells];rw [show a.den ρ=a.den bI from this]
 | val v=>simp only [cb.cells,h.va]
 | ptr=>simp only [cb.cells];rw [show a.den ρ=a.den bI from this]
 | bY=>rfl
 | str=>simp only [cb.cells];rw [show a.den ρ=a.den bI from this]
 | cv=>simp only [cb.cells];rw [show a.den ρ=a.den bI from this]
 | Ii l=>
  simp only [cb.cells,dC];refine ag4 fun j _=>?_
  cases hj:l[i*w+j]? with
  | none=>rfl
  | some n=>
   have:=agv.1 hs.2 n (List.mem_of_getElem? hj);simp only [agM]at this;simp only [Option.elim,h.v n this]
 | pt q v=>
  have hq:=hs.2;simp only [CK.sc,ai,agM]at hq;simp only [cb.cells,dC];rw [show a.den ρ=a.den bI from this,show q.den ρ=q.den bI from E.b_ h hq.1,h.v v hq.2]
theorem vi(h:gy c ρ bI){aA:List cb}(hs:aA.all (cb.sc c)=true)(n:Nat):aI ρ n aA=aI bI n aA:=by
 unfold aI;congr 1;exact ag4 fun k hk=>cb.Au h (agv.1 hs k hk)
theorem Ez{c:cF}{z:List SV}(hz:SV.qz c z=true): ∀{es:List (Nat×List SV)},(es.all fun e=>SV.qz c e.2)=true→∀i,SV.qz c (oz es z i)=true
 | [],_,_=>hz
 | (k,v)::r,h,i=>by
  simp only [List.all_cons,ai]at h;unfold oz;split
  ·exact h.1
  ·exact Ez hz h.2 i
theorem Ck.b_(h:gy c ρ bI){ck:Ck}(hs:ck.sc c=true):ck.den ρ=ck.den bI:=by
 cases ck with
 | emp=>rfl
 | row b w cs=>simp only [Ck.sc,ai,agM]at hs;simp only [Ck.den,h.b b hs.1,(SV.gg h hs.2).2]
 | cy md v t s n aA=>simp only [Ck.sc,ai,agM]at hs;simp only [Ck.den,h.v v hs.1.1,E.b_ h hs.1.2,vi h hs.2]
 | abs i=>simp only [Ck.sc,agM]at hs;simp only [Ck.den,h.p i hs]
 | mg l r s j=>simp only [Ck.sc,ai,agM]at hs;simp only [Ck.den,h.b l hs.1,h.r r hs.2]
 | Mb b=>simp only [Ck.sc,agM]at hs;simp only [Ck.den,h.b b hs]
 | qA b=>simp only [Ck.sc,agM]at hs;simp only [Ck.den,h.b b hs]
 | map b kl ka va z has aA=>
  simp only [Ck.sc,ai,agM]at hs;have hc:aA.map (cb.cells ρ)=aA.map (cb.cells bI):=ag4 fun k hk=>cb.Au h (agv.1 hs.2 k hk)
  simp only [Ck.den,h.b b hs.1.1.1,(SV.gg h hs.1.1.2).2,E.b_ h hs.1.2,hc]
 | NA b l p=>simp only [Ck.sc,agM]at hs;simp only [Ck.den,h.b b hs]
 | Kf b t e n a=>simp only [Ck.sc,ai,agM]at hs;simp only [Ck.den,h.b b hs.1.1,E.b_ h hs.1.2,E.b_ h hs.2]
 | ow b kl ka va z es=>
  simp only [Ck.sc,ai,agM]at hs;have hr:(fun i=>SV.ar ρ (oz es z i))=fun i=>SV.ar bI (oz es z i):=funext fun i=>(SV.gg h (Ez hs.1.2 hs.2 i)).2
  rw [Ck.lK,Ck.lK,h.b b hs.1.1,(SV.gg h hs.1.2).2,hr]
theorem kX(h:gy c ρ bI){hp:List Ck}(hs:hp.all (Ck.sc c)=true):hp.map (Ck.den ρ)=hp.map (Ck.den bI):=
 ag4 fun k hk=>Ck.b_ h (agv.1 hs k hk)
end
structure gK (ρ:Env) (c:cF):Prop where
 b:ρ.bv.length=c.b
 v:ρ.vv.length=c.v
 i:ρ.iv.length=c.i
 a:ρ.av.length=c.a
 bo:ρ.bo.length=c.bo
 p:ρ.pv.length=c.p
 r:ρ.lr.length=c.r
structure Ext.Fits (e:Ext) (c:cF):Prop where
 b:e.b.length=c.b
 v:e.v.length=c.v
 i:e.i.length=c.i
 a:e.a.length=c.a
 bo:e.bo.length=c.bo
 p:e.p.length=c.p
 r:e.r.length=c.r
def Env.Le(ρ bI:Env):Prop:= ∃x:Ext,bI=ρ.ext x
def Ext.zero:Ext:=⟨[],[],[],[],[],[],[]⟩
theorem Env.Od(ρ:Env):ρ.ext Ext.zero=ρ:=by simp [Env.ext,Ext.zero]
theorem Env.Le.refl(ρ:Env):Env.Le ρ ρ:=⟨Ext.zero,(Env.Od ρ).symm⟩
theorem Env.Le.trans{a b c:Env}(h:Env.Le a b)(k:Env.Le b c):Env.Le a c:=by
 obtain⟨x,rfl⟩:=h;obtain⟨y,rfl⟩:=k;exact⟨⟨x.b++y.b,x.v++y.v,x.i++y.i,x.a++y.a,x.bo++y.bo,x.p++y.p,x.r++y.r⟩,by simp [Env.ext]⟩
theorem Env.gL(ρ:Env)(e:Ext):Env.Le ρ (ρ.ext e):=⟨e,rfl⟩
theorem Env.R7(ρ:Env)(b:Nat):ρ.nG b=ρ.ext ⟨[b],[],[],[],[],[],[]⟩:=by simp [Env.ext,Env.nG]
theorem Env.R8(ρ:Env)(v:V1):ρ.gI v=ρ.ext ⟨[],[v],[],[],[],[],[]⟩:=by simp [Env.ext,Env.gI]
theorem m8{α:Type}(l m:List α)(d:α)(i:Nat)(h:i<l.length):l.getD i d=(l++m).getD i d:=by
 rw [List.getD_eq_getElem?_getD,List.getD_eq_getElem?_getD,agC h]
theorem Env.Le.agree{ρ bI:Env}{c:cF}(hl:gK ρ c)(h:Env.Le ρ bI):gy c ρ bI:=by
 obtain⟨x,rfl⟩:=h;exact⟨fun i hi=>m8 _ _ _ i (by rw [hl.b];exact hi),fun i hi=>m8 _ _ _ i (by rw [hl.v];exact hi),fun i hi=>m8 _ _ _ i (by rw [hl.i];exact hi),
  fun i hi=>m8 _ _ _ i (by rw [hl.a];exact hi),fun i hi=>m8 _ _ _ i (by rw [hl.bo];exact hi),fun i hi=>m8 _ _ _ i (by rw [hl.p];exact hi),fun i hi=>m8 _ _ _ i (by rw [hl.r];exact hi),rfl⟩
theorem gK.ext{ρ:Env}{c d:cF}{e:Ext}(h:gK ρ c)(k:e.Fits d):gK (ρ.ext e) (c.add d):=
 ⟨by simp [Env.ext,cF.add,h.b,k.b],by simp [Env.ext,cF.add,h.v,k.v],by simp [Env.ext,cF.add,h.i,k.i],by simp [Env.ext,cF.add,h.a,k.a],by simp [Env.ext,cF.add,h.bo,k.bo],by simp [Env.ext,cF.add,h.p,k.p],by simp [Env.ext,cF.add,h.r,k.r]⟩
theorem Env.Le.take{ρ bI:Env}{c:cF}(hl:gK ρ c)(h:Env.Le ρ bI):bI.take c=ρ:=by
 obtain⟨x,rfl⟩:=h;obtain⟨h1,h2,h3,h4,h5,h6,h7⟩:=hl;simp [Env.take,Env.ext,←h1,←h2,←h3,←h4,←h5,←h6,←h7]
theorem EA{α:Type}: ∀(n:Nat) (f:List α→Prop),NS n f↔∃l,l.length=n∧f l
 | 0,f=>by
  simp only [NS];constructor
  ·intro h;exact⟨[],rfl,h⟩
  ·rintro ⟨l,hl,h⟩;rw [List.length_eq_zero_iff]at hl;subst hl;exact h
 | n+1,f=>by
  simp only [NS];constructor
  ·rintro ⟨x,h⟩;obtain⟨l,hl,h⟩:=(EA n _).1 h;exact⟨x::l,by simp [hl],h⟩
  ·rintro ⟨l,hl,h⟩;cases l with
   | nil=>cases hl
   | cons x l=>exact⟨x,(EA n _).2 ⟨l,by simpa using hl,h⟩⟩
theorem Av{α:Type}: ∀(n:Nat) (f:List α→Prop),zP n f↔∀l,l.length=n→f l
 | 0,f=>by
  simp only [zP];constructor
  ·intro h l hl;rw [List.length_eq_zero_iff]at hl;subst hl;exact h
  ·intro h;exact h [] rfl
 | n+1,f=>by
  simp only [zP];constructor
  ·intro h l hl;cases l with
   | nil=>cases hl
   | cons x l=>exact(Av n _).1 (h x) l (by simpa using hl)
  ·intro h x;exact(Av n _).2 fun l hl=>h (x::l) (by simp [hl])
theorem kY(c:cF)(f:Ext→Prop):xK c f↔∃e,e.Fits c∧f e:=by
 simp only [xK,EA];constructor
 ·rintro ⟨b,hb,v,hv,i,hi,a,ha,bo,Vm,p,hp,r,hr,h⟩;exact⟨⟨b,v,i,a,bo,p,r⟩,⟨hb,hv,hi,ha,Vm,hp,hr⟩,h⟩
 ·rintro ⟨⟨b,v,i,a,bo,p,r⟩,⟨hb,hv,hi,ha,Vm,hp,hr⟩,h⟩;exact⟨b,hb,v,hv,i,hi,a,ha,bo,Vm,p,hp,r,hr,h⟩
theorem pY(c:cF)(f:Ext→Prop):zQ c f↔∀e,e.Fits c→f e:=by
 simp only [zQ,Av];constructor
 ·rintro h ⟨b,v,i,a,bo,p,r⟩ ⟨hb,hv,hi,ha,Vm,hp,hr⟩;exact h b hb v hv i hi a ha bo Vm p hp r hr
 ·intro h b hb v hv i hi a ha bo Vm p hp r hr;exact h ⟨b,v,i,a,bo,p,r⟩ ⟨hb,hv,hi,ha,Vm,hp,hr⟩
def Hold(ρ bI:Env)(l:List eT):Prop:= ∀x∈l,x.holds ρ bI
section
variable {ρ bI:Env}
theorem vj(l:List eT)(q:Prop):TP ρ bI l q↔Hold ρ bI l∧q:=by
 induction l with
 | nil=>simp [TP,Hold]
 | cons x r ih=>
  simp only [TP,ih,Hold,List.mem_cons,forall_eq_or_imp,and_assoc]
theorem Hold.app{a b:List eT}(h:Hold ρ bI (a++b)):Hold ρ bI a∧Hold ρ bI b:=
 ⟨fun x hx=>h x (List.mem_append_left _ hx),fun x hx=>h x (List.mem_append_right _ hx)⟩
theorem s7{c:cF}(h:gy c ρ bI){x:eT}(ht:x.trivial c=true):x.holds ρ bI:=by
 cases x<;>simp only [eT.trivial,ai,beq_iff_eq,agM]at ht<;>simp only [eT.holds]
 case e x y=>obtain⟨rfl,hs⟩:=ht;rw [E.b_ h hs]
 case a n x y=>obtain⟨⟨rfl,hs⟩,_⟩:=ht;intro j _;rw [E.b_ h hs]
 case b x y=>obtain⟨rfl,hs⟩:=ht;rw [BE.b_ h hs]
 case af x y=>obtain⟨rfl,hs⟩:=ht;exact E.b_ h hs
 case v i j=>obtain⟨rfl,hs⟩:=ht;exact h.v _ hs
 case p i j=>obtain⟨rfl,hs⟩:=ht;exact h.p _ hs
 case bl i j=>obtain⟨rfl,hs⟩:=ht;exact h.b _ hs
 case rc i j=>obtain⟨rfl,hs⟩:=ht;exact h.r _ hs
theorem Hold.all{c:cF}(h:gy c ρ bI){l:List eT}(hl:Hold ρ bI (l.filter fun q=> !q.trivial c)):Hold ρ bI l:=by
 intro x hx;by_cases ht:x.trivial c=true
 ·exact s7 h ht
 ·exact hl x (agP.2 ⟨hx,by simpa using ht⟩)
theorem mh(s:Nat): ∀{x y:List Cut} {l:List eT} (v:Value),mN x y=some l→Hold ρ bI l→dx ρ s v x=dx bI s v y
 | [],[],_,_,_,_=>rfl
 | [],_::_,l,_,h,hl=>by simp [mN]at h
 | _::_,[],l,_,h,hl=>by simp [mN]at h
 | a::r,b::r',l,v,h,hl=>by
  unfold mN at h;split at h
  ·rename_i x h1 h2 h3;cases h;have e1:=hl _ (agA);have e2:=hl _ (agF _ (agA));simp only [eT.holds]at e1 e2;simp only [dx,e1,e2,h1,h2,Option.map_none];exact mh s _ h3 fun q hq=>hl q (agF _ (agF _ hq))
  ·rename_i m m' x h1 h2 h3;cases h;have e1:=hl _ (agA);have e2:=hl _ (agF _ (agA));have e3:=hl _ (agF _ (agF _ (agA)));simp only [eT.holds]at e1 e2 e3;simp only [dx,e1,e2,e3,h1,h2,Option.map_some];exact mh s _ h3 fun q hq=>hl q (agF _ (agF _ (agF _ hq)))
  ·cases h
mutual
theorem oC: ∀{x y:SV} {l:List eT},vl x y=some l→Hold ρ bI l→x.val ρ=y.val bI∧x.cells ρ=y.cells bI
 | x,y,l,h,hl=>by
  unfold vl at h;split at h
  ·split at h
   ·rename_i hk;subst hk;cases h;have:=hl _ agA;simp only [eT.holds]at this;simp only [SV.val,SV.cells,this,and_self]
   ·cases h
  ·cases h;have:=hl _ agA;simp only [eT.holds]at this;simp only [SV.val,SV.cells,this,and_self]
  ·exact⟨rfl,rfl⟩
  ·exact⟨rfl,rfl⟩
  ·exact⟨rfl,rfl⟩
  ·exact⟨rfl,rfl⟩
  ·exact⟨rfl,rfl⟩
  ·exact⟨rfl,rfl⟩
  ·split at h
   ·rename_i hk;subst hk;cases h;have:=hl _ agA;simp only [eT.holds]at this;simp only [SV.val,SV.cells,this,and_self]
   ·cases h
  ·split at h
   ·rename_i hk;obtain⟨rfl,rfl⟩:=hk;cases h;have h1:=hl _ (agA);have h2:=hl _ (agF _ (agA));simp only [eT.holds]at h1 h2;simp only [SV.val,SV.cells,h1,h2,and_self]
   ·cases h
  ·split at h
   ·rename_i hk;obtain⟨rfl,rfl⟩:=hk;cases h;have h1:=hl _ (agA);have h2:=hl _ (agF _ (agA));simp only [eT.holds]at h1 h2;simp only [SV.val,SV.cells,h1,h2,and_self]
   ·cases h
  ·split at h
   ·rename_i hk;subst hk;cases h;have h1:=hl _ (agA);have h2:=hl _ (agF _ (agA));have h3:=hl _ (agF _ (agF _ (agA)));have h4:=hl _ (agF _ (agF _ (agF _ (agA))));simp only [eT.holds]at h1 h2 h3 h4;simp only [SV.val,SV.cells,h1,h2,h3,h4,and_self]
   ·cases h
  ·cases h;have:=hl _ agA;simp only [eT.holds]at this;simp only [SV.val,SV.cells,this,and_self]
  ·split at h
   ·rename_i hk;subst hk;exact⟨rfl,rfl⟩
   ·cases h
  ·cases h;have:=hl _ agA;simp only [eT.holds]at this;simp only [SV.val,SV.cells,this,and_self]
  ·cases h;have h1:=hl _ agA;have h2:=hl _ (agF _ agA);simp only [eT.holds]at h1 h2;simp only [SV.val,SV.cells,h1,h2,and_self]
  ·split at h
   ·rename_i hk;obtain⟨rfl,rfl⟩:=hk;cases h;have:=hl _ agA;simp only [eT.holds]at this;simp only [SV.val,SV.cells,this,and_self]
   ·cases h
  ·cases h;have:=hl _ agA;simp only [eT.holds,mW]at this;simp only [SV.val,SV.cells,this,oU,and_self]
  ·split at h
   ·rename_i hk;subst hk;have:=dL h hl;simp only [SV.val,SV.cells,this.1,and_self]
   ·cases h
  ·have:=dL h hl;simp only [SV.val,SV.cells,this.2,and_self]
  ·split at h
   ·rename_i hk;obtain⟨rfl,rfl⟩:=hk;cases h;rename_i k n a b;have:=hl _ agA;simp only [eT.holds,E.den,Int.toNat_natCast]at this;have e:ak k n (a.den ρ)=ak k n (b.den bI):=cT k n this;simp only [SV.val,SV.cells,e,and_self]
   ·cases h
  ·have:=dL h hl;simp only [SV.val,SV.cells,this.1,and_self]
  ·rw [agz]at h;obtain⟨z,hz,rfl⟩:=h;have h1:=hl _ agA;have h2:=oC hz fun x hx=>hl x (agF _ hx)
   simp only [eT.holds]at h1;simp only [SV.val,SV.cells,h1,h2.1,and_self]
  ·cases h;have:=hl _ agA;simp only [eT.holds]at this;simp only [SV.val,SV.cells,this,and_self]
  ·cases h;have:=hl _ agA;simp only [eT.holds]at this;simp only [SV.val,SV.cells,this,and_self]
  ·cases h;have:=hl _ agA;simp only [eT.holds]at this;simp only [SV.val,SV.cells,this,and_self]
  ·split at h
   ·rename_i hk;subst hk;cases h;have:=hl _ agA;simp only [eT.holds,E.den]at this;simp only [SV.val,SV.cells,this,fK,and_self]
   ·cases h
  ·cases h;have:=hl _ agA;simp only [eT.holds,E.den]at this;simp only [SV.val,SV.cells,this,aD,if_true,and_self]
  ·split at h
   ·rename_i hk;subst hk;cases h;have:=hl _ agA;simp only [eT.holds,E.den]at this;simp only [SV.val,SV.cells,←this,fK,and_self]
   ·cases h
  ·cases h;have:=hl _ agA;simp only [eT.holds]at this;simp only [SV.val,SV.cells,this,and_self]
  ·cases h;have:=hl _ agA;simp only [eT.holds,E.den]at this;simp only [SV.val,SV.cells,this,iR,if_true,and_self]
  ·split at h
   ·rename_i hk;subst hk;rw [agz]at h;obtain⟨z,hz,rfl⟩:=h;have h1:=hl _ (agA);simp only [eT.holds]at h1;simp only [SV.val,SV.cells,h1,mh _ _ hz fun q hq=>hl q (agF _ hq),and_self]
   ·cases h
  ·cases h
theorem dL: ∀{x y:List SV} {l:List eT},gA x y=some l→Hold ρ bI l→SV.bQ ρ x=SV.bQ bI y∧SV.ar ρ x=SV.ar bI y
 | [],[],l,h,hl=>⟨rfl,rfl⟩
 | [],_::_,l,h,hl=>by simp [gA]at h
 | _::_,[],l,h,hl=>by simp [gA]at h
 | a::r,b::r',l,h,hl=>by
  unfold gA at h;split at h
  ·rename_i p q hp hq;cases h;obtain⟨h1,h2⟩:=hl.app;have e1:=oC hp h1;have e2:=dL hq h2;simp only [SV.bQ,SV.ar,e1.1,e1.2,e2.1,e2.2,and_self]
  ·cases h
end
theorem oD: ∀{pat act:List (Nat×SV)} {l:List eT},nS pat act=some l→Hold ρ bI l→
  ∀s v,look pat s=some v→∃v',look act s=some v'∧v.val ρ=v'.val bI
 | [],act,l,h,hl,s,v,hs=>by simp [look]at hs
 | (t,x)::r,act,l,h,hl,s,v,hs=>by
  unfold nS at h;split at h
  ·rename_i v' y sO hy;rw [agz]at h;obtain⟨z,hz,rfl⟩:=h;obtain⟨h1,h2⟩:=hl.app;unfold look at hs;split at hs
   ·rename_i uK;rw [beq_iff_eq]at uK;subst uK;cases hs;exact⟨v',sO,(oC hz h1).1⟩
   ·exact oD hy h2 s v hs
  ·cases h
theorem jf(Fz:ρ.va=bI.va)(N:Nat){n:E}(hn:(n.den ρ 0).toNat=N): ∀{pat act:List cb} {l:List eT},jy n pat act=some l→Hold ρ bI l→
  ∀i,i<N→((pat.map (cb.cells ρ)).flatMap fun c=>c i)=(act.map (cb.cells bI)).flatMap fun c=>c i
 | [],[],l,h,hl,i,hi=>rfl
 | [],_::_,l,h,hl,i,hi=>by simp [jy]at h
 | _::_,[],l,h,hl,i,hi=>by simp [jy]at h
 | a::r,b::r',l,h,hl,i,hi=>by
  unfold jy at h;split at h
  ·rename_i ls ls' ha hb;split at h
   case isFalse=>cases h
   rename_i hk;rw [agz]at h;obtain⟨z,hz,rfl⟩:=h;have ih:=jf Fz N hn hz (fun x hx=>hl x (List.mem_append_right _ hx)) i hi;simp only [agW,List.flatMap_cons,ih];congr 1;obtain⟨ck,cw,ca⟩:=a;obtain⟨Rk,ZL,ND⟩:=b;obtain⟨e1,e2⟩:=hk;simp only at ha hb e2;subst ha hb e2;simp only [cb.cells,dC];refine ag4 fun j _=>?_
   generalize i*cw+j=m;by_cases hm:m<ls.length
   ·rw [ag6 hm,ag6 (show m<ls'.length by omega)];have:=hl (.v ls[m] ls'[m]) (List.mem_append_left _ (ag9.2 ⟨(ls[m],ls'[m]),by
     rw [List.mem_iff_getElem?];exact⟨m,by rw [List.getElem?_zip_eq_some];exact⟨ag6 hm,ag6 (by omega)⟩⟩,rfl⟩))
    simp only [eT.holds]at this;simp only [Option.elim,this]
   ·rw [ag7 (by omega),ag7 (by omega)];rfl
  ·cases h
  rename_i ZM Vn;split at h
  ·rename_i hk;rw [agz]at h;obtain⟨z,hz,rfl⟩:=h;have ih:=jf Fz N hn hz (fun x hx=>hl x (agF _ hx)) i hi;have h1:=hl _ agA;simp only [agW,List.flatMap_cons,ih];congr 1;obtain⟨ck,cw,ca⟩:=a;obtain⟨Rk,ZL,ND⟩:=b;obtain⟨e1,e2⟩:=hk;simp only at e1 e2 h1;subst e1 e2;by_cases Vo:ck= .str
   ·subst Vo;simp only [if_true,eT.holds]at h1;simp only [cb.cells];rw [show ca.den ρ=ND.den bI from h1]
   rw [if_neg Vo]at h1;simp only [eT.holds,gv,E.den]at h1;have hb: ∀j,j<cw→ca.den ρ (i*cw+j)=ND.den bI (i*cw+j):=by
    intro j hj;refine h1 _ ?_;rw [toNat_mul,hn];have:i*cw+cw≤N*cw:=by
     have:=Nat.mul_le_mul_right cw (show i+1≤N by omega)
     rwa [Nat.add_mul,Nat.one_mul]at this
    omega
   cases ck with
   | int k=>exact cT k cw hb
   | bool=>
    unfold cb.cells oh;exact ag4 fun j hj=>by rw [hb j (agJ.1 hj)]
   | val v=>simp only [cb.cells,Fz]
   | ptr=>
    unfold cb.cells pJ;exact ag4 fun j hj=>by rw [hb j (agJ.1 hj)]
   | bY=>rfl
   | str=>exact absurd rfl Vo
   | cv=>
    simp only [cb.cells,dC];exact ag4 fun j hj=>by rw [hb j (agJ.1 hj)]
   | Ii l=>exact absurd rfl (Vn l l rfl)
   | pt q v=>exact absurd rfl (ZM q v)
  ·split at h
   ·rename_i hk;rw [agz]at h;obtain⟨z,hz,rfl⟩:=h;have ih:=jf Fz N hn hz (fun x hx=>hl x (agF _ hx)) i hi;have h1:=hl _ agA;simp only [agW,List.flatMap_cons,ih];congr 1;obtain⟨ck,cw,ca⟩:=a;obtain⟨Rk,ZL,ND⟩:=b;obtain⟨e0,e1,e2⟩:=hk;simp only at e0 e1 e2 h1;subst e0 e1 e2;simp only [eT.holds,gv,E.den]at h1;simp only [cb.cells,dC];refine ag4 fun j hj=>?_
    rw [h1 _ ?_,FK];have lW:=agJ.1 hj;rw [toNat_mul,hn];have:i*cw+cw≤N*cw:=by
     have:=Nat.mul_le_mul_right cw (show i+1≤N by omega)
     rwa [Nat.add_mul,Nat.one_mul]at this
    omega
   ·cases h
theorem kZ(Fz:ρ.va=bI.va): ∀{pat act:List cb} {l:List eT},jm pat act=some l→Hold ρ bI l→pat.map (cb.cells ρ)=act.map (cb.cells bI)
 | [],[],l,h,hl=>rfl
 | [],_::_,l,h,hl=>by simp [jm]at h
 | _::_,[],l,h,hl=>by simp [jm]at h
 | a::r,b::r',l,h,hl=>by
  unfold jm at h;split at h
  ·cases h
  ·rename_i q v q' u Iy Mf;split at h
   ·rename_i hw;rw [agz]at h;obtain⟨z,hz,rfl⟩:=h;have ih:=kZ Fz hz (fun x hx=>hl x (agF _ (agF _ (agF _ hx))));have h1:=hl _ agA;have h2:=hl _ (agF _ agA);have h3:=hl _ (agF _ (agF _ agA));simp only [eT.holds]at h1 h2 h3;rw [agW,agW,ih];congr 1;obtain⟨ck,cw,ca⟩:=a;obtain⟨Rk,ZL,ND⟩:=b;simp only at Iy Mf hw h3;subst Iy Mf hw;funext i;simp only [cb.cells];rw [show ca.den ρ=ND.den bI from h3,h1,h2]
   ·cases h
  ·cases h
  rename_i Vn XP ZM;split at h
  ·rename_i hk;rw [agz]at h;obtain⟨z,hz,rfl⟩:=h;have ih:=kZ Fz hz (fun x hx=>hl x (agF _ hx));have h1:=hl _ agA;simp only [eT.holds]at h1;rw [agW,agW,ih];congr 1;obtain⟨ck,cw,ca⟩:=a;obtain⟨Rk,ZL,ND⟩:=b;obtain⟨e1,e2⟩:=hk;simp only at e1 e2 h1;subst e1 e2;funext i;cases ck with
   | int k=>simp only [cb.cells];rw [show ca.den ρ=ND.den bI from h1]
   | bool=>simp only [cb.cells];rw [show ca.den ρ=ND.den bI from h1]
   | val v=>simp only [cb.cells,Fz]
   | ptr=>simp only [cb.cells];rw [show ca.den ρ=ND.den bI from h1]
   | bY=>rfl
   | str=>simp only [cb.cells];rw [show ca.den ρ=ND.den bI from h1]
   | cv=>simp only [cb.cells];rw [show ca.den ρ=ND.den bI from h1]
   | Ii l=>exact(Vn l rfl).elim
   | pt q v=>first | exact(ZM q v rfl).elim | exact(XP q v rfl).elim | exact(ZM q v q v rfl rfl).elim | exact(XP q v q v rfl rfl).elim
  ·cases h
theorem jW: ∀(f:Nat) (p act:List SV),SV.ar ρ (uf f p act)=SV.ar ρ act
 | 0,_,_=>rfl
 | f+1,p,act=>by
  unfold uf;split
  ·rfl
  ·rename_i k e p f' k' m a r h;cases h;simp only [SV.ar,SV.cells];rw [jW f];split
   ·rename_i hm;subst hm;simp [ak,eO,E.den]
   ·simp only [SV.ar,SV.cells];have:ak k' (m+1) (a.den ρ)=[.int k' (a.den ρ 0)]++ak k' m ((kQ a (.lit 1)).den ρ):=by
     unfold ak;rw [List.range_succ_eq_map,agW,List.map_map];simp only [List.singleton_append,agO,true_and];apply ag4;intro j _;simp [Function.comp,eB,E.den,Nat.add_comm]
    rw [this,eO];simp [E.den]
  ·rename_i k n e p f' x r h;cases h;split
   ·simp only [SV.ar,jW f]
   ·split
    ·rename_i c d hc hd;split
     ·rename_i kl e' FX;split
      ·rename_i Rh;have h1:=(e9 (ρ:=ρ) hc).1;have h2:=eK (ρ:=ρ) _ _ _ hd;have h3:=gZ (ρ:=ρ) FX;rw [Rh,List.length_replicate,pK]at h3;rw [h3,List.drop_zero]at h1;rw [SV.ar,SV.cells,jW f,h1,h2,List.take_append_drop]
      ·rfl
     ·rfl
    ·rfl
  ·rename_i h;cases h;simp only [SV.ar,jW f]
  ·rfl
theorem s8{z z':List SV}(hz:SV.ar ρ z=SV.ar bI z'): ∀{es XQ:List (Nat×List SV)} {l:List eT},se es XQ=some l→Hold ρ bI l→
  ((fun i=>qV es i)=fun i=>qV XQ i)∧(fun i=>SV.ar ρ (oz es z i))=fun i=>SV.ar bI (oz XQ z' i)
 | [],[],_,_,_=>⟨rfl,funext fun _=>hz⟩
 | [],_::_,_,h,_=>by simp [se]at h
 | _::_,[],_,h,_=>by simp [se]at h
 | (i,v)::r,(j,u)::r',l,h,hl=>by
  simp only [se]at h;split at h
  ·rename_i Fy;subst Fy;split at h
   ·rename_i x y hx hy;cases h;obtain⟨h4,h5⟩:=hl.app;obtain⟨e1,e2⟩:=s8 hz hy h5;have e3:=(dL hx h4).2;refine⟨funext fun k=>?_,funext fun k=>?_⟩
    ·simp only [qV];rw [show qV r k=qV r' k from congrFun e1 k]
    ·simp only [oz];split
     ·exact e3
     ·exact congrFun e2 k
   ·cases h
  ·cases h
theorem s9(Fz:ρ.va=bI.va){x y:Ck}{l:List eT}(h:zg x y=some l)(hl:Hold ρ bI l):x.den ρ=y.den bI:=by
 unfold zg at h;split at h
 ·rfl
 ·split at h
  ·rename_i hk;subst hk;rw [agz]at h;obtain⟨z,hz,rfl⟩:=h;have h1:=hl _ agA;simp only [eT.holds]at h1;simp only [Ck.den,h1,(dL hz fun x hx=>hl x (agF _ hx)).2,jW]
  ·cases h
 ·split at h
  ·rename_i hk;obtain⟨rfl,rfl,rfl⟩:=hk;rw [agz]at h;obtain⟨z,hz,rfl⟩:=h;have h1:=hl _ agA;have h2:=hl _ (agF _ agA);simp only [eT.holds]at h1 h2;have h3:=jf Fz _ rfl hz fun x hx=>hl x (agF _ (agF _ hx))
   simp only [Ck.den,h1,h2];congr 1;unfold aI aT;rw [List.flatMap_def,List.flatMap_def];congr 1;refine ag4 fun i hi=>h3 i ?_
   rw [h2];exact agJ.1 hi
  ·cases h
 ·cases h;have:=hl _ agA;exact this
 ·split at h
  ·rename_i hk;obtain⟨rfl,rfl⟩:=hk;cases h;have h1:=hl _ agA;have h2:=hl _ (agF _ agA);simp only [eT.holds]at h1 h2;simp only [Ck.den,h1,h2]
  ·cases h
 ·cases h;have:=hl _ agA;simp only [eT.holds]at this;simp only [Ck.den,this]
 ·cases h;have:=hl _ agA;simp only [eT.holds]at this;simp only [Ck.den,this]
 ·split at h
  ·rename_i hk;obtain⟨rfl,rfl,rfl⟩:=hk;split at h
   ·rename_i x y hx hy;cases h;have h1:=hl _ agA;have h2:=hl _ (agF _ agA);simp only [eT.holds]at h1 h2;have h3:Hold ρ bI (x++y):=fun q hq=>hl q (agF _ (agF _ hq))
    obtain⟨h4,h5⟩:=h3.app;simp only [Ck.den,h1,h2,(dL hx h4).2,kZ Fz hy h5]
   ·cases h
  ·cases h
 ·split at h
  ·rename_i hk;obtain⟨rfl,rfl,rfl⟩:=hk;split at h
   ·rename_i x y hx hy;cases h;have h1:=hl _ agA;simp only [eT.holds]at h1;have h3:Hold ρ bI (x++y):=fun q hq=>hl q (agF _ hq)
    obtain⟨h4,h5⟩:=h3.app;obtain⟨e1,e2⟩:=s8 (dL hx h4).2 hy h5;rw [Ck.lK,Ck.lK,h1,(dL hx h4).2,e1,e2]
   ·cases h
  ·cases h
 ·split at h
  ·rename_i hk;obtain⟨rfl,rfl⟩:=hk;cases h;have h1:=hl _ agA;have h2:=hl _ (agF _ agA);have h3:=hl _ (agF _ (agF _ agA));simp only [eT.holds]at h1 h2 h3;simp only [Ck.den,h1];congr 1;rw [←h2];exact cT _ _ h3
  ·cases h
 ·split at h
  ·rename_i hk;obtain⟨rfl,rfl⟩:=hk;cases h;have h1:=hl _ agA;simp only [eT.holds]at h1;simp only [Ck.den,h1]
  ·cases h
 ·cases h
theorem s_(Fz:ρ.va=bI.va): ∀{pat act:List Ck} {l:List eT},nT pat act=some l→Hold ρ bI l→
  ∃more,act.map (Ck.den bI)=pat.map (Ck.den ρ)++more
 | [],act,l,h,hl=>⟨_,rfl⟩
 | a::r,[],l,h,hl=>by simp [nT]at h
 | a::r,b::r',l,h,hl=>by
  unfold nT at h;split at h
  ·rename_i p q hp hq;cases h;obtain⟨h1,h2⟩:=hl.app;obtain⟨m,hm⟩:=s_ Fz hq h2;exact⟨m,by simp only [agW,List.cons_append,hm,s9 Fz hp h1]⟩
  ·cases h
end
end Go.RX
