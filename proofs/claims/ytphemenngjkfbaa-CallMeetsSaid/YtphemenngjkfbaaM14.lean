/- Executor. -/
import Derived.Test.YtphemenngjkfbaaRxP
open Bool renaming and_eq_true → ai
open List renaming all_eq_true → adI, getElem?_append_left → adO, getElem?_eq_getElem → ad9, getElem?_eq_none → aeh, map_cons → ad1, mem_cons_of_mem → adP, mem_cons_self → adN, mem_filter → ad7, mem_map → aeu, mem_range → adU
open Nat renaming blt_eq → adX
open Option renaming map_eq_some_iff → adM
namespace Go.RX
structure fU (c:cz) (ρ bC:Env):Prop where
 b: ∀i,i<c.b→ρ.bv.getD i 0=bC.bv.getD i 0
 v: ∀i,i<c.v→ρ.vv.getD i V1.nil=bC.vv.getD i V1.nil
 i: ∀i,i<c.i→ρ.iv.getD i 0=bC.iv.getD i 0
 a: ∀i,i<c.a→ρ.av.getD i (fun _=>0)=bC.av.getD i (fun _=>0)
 bo: ∀i,i<c.bo→ρ.bo.getD i false=bC.bo.getD i false
 p: ∀i,i<c.p→ρ.pv.getD i HP.emp=bC.pv.getD i HP.emp
 r: ∀i,i<c.r→ρ.lr.getD i g_=bC.lr.getD i g_
 va:ρ.va=bC.va
section
variable {c:cz} {ρ bC:Env}
theorem fU.symm(h:fU c ρ bC):fU c bC ρ:=
 ⟨fun i hi=>(h.b i hi).symm,fun i hi=>(h.v i hi).symm,fun i hi=>(h.i i hi).symm,fun i hi=>(h.a i hi).symm,fun i hi=>(h.bo i hi).symm,fun i hi=>(h.p i hi).symm,fun i hi=>(h.r i hi).symm,h.va.symm⟩
theorem E.bR(h:fU c ρ bC){e:E}(hs:e.sc c=true):e.den ρ=e.den bC:=by
 induction e with
 | lit n=>rfl
 | var i=>simp only [E.sc,adX]at hs;simp only [E.den,h.i i hs]
 | aw i=>simp only [E.sc,adX]at hs;simp only [E.den,h.a i hs]
 | iX a i lF Gz=>simp only [E.sc,ai]at hs;simp only [E.den,lF hs.1,Gz hs.2]
 | bin o k a b lF rU=>simp only [E.sc,ai]at hs;simp only [E.den,lF hs.1,rU hs.2]
 | wrap k a ih=>simp only [E.sc]at hs;simp only [E.den,ih hs]
 | cV a i v lF Gz Xa=>simp only [E.sc,ai]at hs;simp only [E.den,lF hs.1.1,Gz hs.1.2,Xa hs.2]
 | shift a o lF SB=>simp only [E.sc,ai]at hs;simp only [E.den,lF hs.1,SB hs.2]
 | BD a o n b lF SB Yv rU=>simp only [E.sc,ai]at hs;simp only [E.den,lF hs.1.1.1,SB hs.1.1.2,Yv hs.1.2,rU hs.2]
 | kc n a ih=>simp only [E.sc]at hs;simp only [E.den,ih hs]
 | s5 b=>simp only [E.sc,adX]at hs;simp only [E.den,h.b b hs]
 | pk l=>rfl
 | Pl a i lF Gz=>simp only [E.sc,ai]at hs;simp only [E.den,lF hs.1,Gz hs.2]
 | pF a i s lF Gz Xb=>simp only [E.sc,ai]at hs;simp only [E.den,lF hs.1.1,Gz hs.1.2,Xb hs.2]
 | Q6 s ih=>simp only [E.sc]at hs;simp only [E.den,ih hs]
theorem BE.bR(h:fU c ρ bC){b:BE}(hs:b.sc c=true):b.den ρ=b.den bC:=by
 induction b with
 | lit n=>rfl
 | var i=>simp only [BE.sc,adX]at hs;simp only [BE.den,h.bo i hs]
 | eq a b=>simp only [BE.sc,ai]at hs;simp only [BE.den,E.bR h hs.1,E.bR h hs.2]
 | lt a b=>simp only [BE.sc,ai]at hs;simp only [BE.den,E.bR h hs.1,E.bR h hs.2]
 | le a b=>simp only [BE.sc,ai]at hs;simp only [BE.den,E.bR h hs.1,E.bR h hs.2]
 | nz a=>simp only [BE.sc]at hs;simp only [BE.den,E.bR h hs]
 | Q7 n a b=>simp only [BE.sc,ai]at hs;simp only [BE.den,E.bR h hs.1,E.bR h hs.2]
 | not a ih=>simp only [BE.sc]at hs;simp only [BE.den,ih hs]
 | and a b lF rU=>simp only [BE.sc,ai]at hs;simp only [BE.den,lF hs.1,rU hs.2]
 | or a b lF rU=>simp only [BE.sc,ai]at hs;simp only [BE.den,lF hs.1,rU hs.2]
 | ite x t e Ux O2 O3=>simp only [BE.sc,ai]at hs;simp only [BE.den,Ux hs.1.1,O2 hs.1.2,O3 hs.2]
 | seq a b=>simp only [BE.sc,ai]at hs;simp only [BE.den,E.bR h hs.1,E.bR h hs.2]
theorem BE.gn(h:fU c ρ bC){b:BE}(hs:b.sc c=true):b.prop ρ↔b.prop bC:=by
 rw [←BE.bY,←BE.bY,BE.bR h hs]
theorem Ii(h:fU c ρ bC)(s:Nat): ∀{cs:List Cut} (v:Value),cs.all (Cut.sc c)=true→c8 ρ s v cs=c8 bC s v cs
 | [],_,_=>rfl
 | k::r,v,hs=>by
  simp only [List.all_cons,ai,Cut.sc]at hs;obtain⟨⟨⟨h1,h2⟩,h3⟩,h4⟩:=hs;have hm:(k.mx.map fun m=>(m.den ρ 0).toNat)=k.mx.map fun m=>(m.den bC 0).toNat:=by
   cases hk:k.mx with
   | none=>rfl
   | some m=>
    rw [hk]at h3;simp only [Option.map_some,E.bR h h3]
  simp only [c8,E.bR h h1,E.bR h h2,hm];exact Ii h s _ h4
mutual
theorem SV.uP(h:fU c ρ bC): ∀{v:SV},v.sc c=true→v.val ρ=v.val bC∧v.cells ρ=v.cells bC
 | .int k e,hs=>by simp only [SV.sc]at hs;simp only [SV.val,SV.cells,E.bR h hs,and_self]
 | .bool b,hs=>by simp only [SV.sc]at hs;simp only [SV.val,SV.cells,BE.bR h hs,and_self]
 | .dT,_=>⟨rfl,rfl⟩
 | .bT,_=>⟨rfl,rfl⟩
 | .oh,_=>⟨rfl,rfl⟩
 | .s6,_=>⟨rfl,rfl⟩
 | .hU,_=>⟨rfl,rfl⟩
 | .undef,_=>⟨rfl,rfl⟩
 | .ptr b n,hs=>by simp only [SV.sc,adX]at hs;simp only [SV.val,SV.cells,h.b b hs,and_self]
 | .pq b i s n,hs=>by simp only [SV.sc,adX,ai]at hs;simp only [SV.val,SV.cells,h.b b hs.1,E.bR h hs.2,and_self]
 | .pv v i s n,hs=>by simp only [SV.sc,adX,ai]at hs;simp only [SV.val,SV.cells,h.v v hs.1,E.bR h hs.2,and_self]
 | .sl b i s n m,hs=>by simp only [SV.sc,adX,ai]at hs;simp only [SV.val,SV.cells,h.b b hs.1.1.1,E.bR h hs.1.1.2,E.bR h hs.1.2,E.bR h hs.2,and_self]
 | .vv i,hs=>by simp only [SV.sc,adX]at hs;simp only [SV.val,SV.cells,h.v i hs,and_self]
 | .str l,_=>⟨rfl,rfl⟩
 | .fn f jB,hs=>by simp only [SV.sc]at hs;simp only [SV.val,SV.cells,(SV.fF h hs).1,and_self]
 | .agg cs,hs=>by simp only [SV.sc]at hs;simp only [SV.val,SV.cells,(SV.fF h hs).2,and_self]
 | .aX k n a,hs=>by simp only [SV.sc]at hs;simp only [SV.val,SV.cells,E.bR h hs,and_self]
 | .j7 vs,hs=>by simp only [SV.sc]at hs;simp only [SV.val,SV.cells,(SV.fF h hs).1,and_self]
 | .opt b v,hs=>by simp only [SV.sc,ai]at hs;simp only [SV.val,SV.cells,BE.bR h hs.1,(SV.uP h hs.2).1,and_self]
 | .C8 a i,hs=>by simp only [SV.sc]at hs;simp only [SV.val,SV.cells,E.bR h hs,h.va,and_self]
 | .Jp l,hs=>by simp only [SV.sc,adX]at hs;simp only [SV.val,SV.cells,h.b l hs,and_self]
 | .mp l,hs=>by simp only [SV.sc,adX]at hs;simp only [SV.val,SV.cells,h.b l hs,and_self]
 | .cO e,hs=>by simp only [SV.sc]at hs;simp only [SV.val,SV.cells,E.bR h hs,and_self]
 | .Lv e,hs=>by simp only [SV.sc]at hs;simp only [SV.val,SV.cells,E.bR h hs,and_self]
 | .kE e,hs=>by simp only [SV.sc]at hs;simp only [SV.val,SV.cells,E.bR h hs,and_self]
 | .LV t k e,hs=>by simp only [SV.sc]at hs;simp only [SV.val,SV.cells,E.bR h hs,and_self]
 | .Ge b v,hs=>by simp only [SV.sc,ai,adX]at hs;simp only [SV.val,SV.cells,BE.bR h hs.1,h.v v hs.2,and_self]
 | .iC v cs s,hs=>by simp only [SV.sc,adX,ai]at hs;simp only [SV.val,SV.cells,h.v v hs.1,Ii h s _ hs.2,and_self]
theorem SV.fF(h:fU c ρ bC): ∀{l:List SV},SV.pw c l=true→SV.bK ρ l=SV.bK bC l∧SV.ar ρ l=SV.ar bC l
 | [],_=>⟨rfl,rfl⟩
 | v::r,hs=>by
  simp only [SV.pw,ai]at hs;simp only [SV.bK,SV.ar,(SV.uP h hs.1).1,(SV.uP h hs.1).2,(SV.fF h hs.2).1,(SV.fF h hs.2).2,and_self]
end
theorem bV.yA(h:fU c ρ bC){k:bV}(hs:k.sc c=true):k.cells ρ=k.cells bC:=by
 obtain⟨ck,w,a⟩:=k;simp only [bV.sc,ai]at hs;have:=E.bR h hs.1;funext i;cases ck with
 | int q=>simp only [bV.cells];rw [show a.den ρ=a.den bC from this]
 | bool=>simp only [bV.cells];rw [show a.den ρ=a.den bC from this]
 | val v=>simp only [bV.cells,h.va]
 | ptr=>simp only [bV.cells];rw [show a.den ρ=a.den bC from this]
 | bT=>rfl
 | str=>simp only [bV.cells];rw [show a.den ρ=a.den bC from this]
 | cv=>simp only [bV.cells];rw [show a.den ρ=a.den bC from this]
 | Gk l=>
  simp only [bV.cells,dI];refine List.map_congr_left fun j _=>?_
  cases hj:l[i*w+j]? with
  | none=>rfl
  | some n=>
   have:=adI.1 hs.2 n (List.mem_of_getElem? hj);simp only [adX]at this;simp only [Option.elim,h.v n this]
 | pt q v=>
  have hq:=hs.2;simp only [CK.sc,ai,adX]at hq;simp only [bV.cells,dI];rw [show a.den ρ=a.den bC from this,show q.den ρ=q.den bC from E.bR h hq.1,h.v v hq.2]
theorem tC(h:fU c ρ bC){aA:List bV}(hs:aA.all (bV.sc c)=true)(n:Nat):aF ρ n aA=aF bC n aA:=by
 unfold aF;congr 1;exact List.map_congr_left fun k hk=>bV.yA h (adI.1 hs k hk)
theorem BU{c:cz}{z:List SV}(hz:SV.pw c z=true): ∀{es:List (Nat×List SV)},(es.all fun e=>SV.pw c e.2)=true→∀i,SV.pw c (nj es z i)=true
 | [],_,_=>hz
 | (k,v)::r,h,i=>by
  simp only [List.all_cons,ai]at h;unfold nj;split
  ·exact h.1
  ·exact BU hz h.2 i
theorem Ck.bR(h:fU c ρ bC){ck:Ck}(hs:ck.sc c=true):ck.den ρ=ck.den bC:=by
 cases ck with
 | emp=>rfl
 | row b w cs=>simp only [Ck.sc,ai,adX]at hs;simp only [Ck.den,h.b b hs.1,(SV.fF h hs.2).2]
 | cc md v t s n aA=>simp only [Ck.sc,ai,adX]at hs;simp only [Ck.den,h.v v hs.1.1,E.bR h hs.1.2,tC h hs.2]
 | abs i=>simp only [Ck.sc,adX]at hs;simp only [Ck.den,h.p i hs]
 | kI l r s j=>simp only [Ck.sc,ai,adX]at hs;simp only [Ck.den,h.b l hs.1,h.r r hs.2]
 | JT b=>simp only [Ck.sc,adX]at hs;simp only [Ck.den,h.b b hs]
 | rj b=>simp only [Ck.sc,adX]at hs;simp only [Ck.den,h.b b hs]
 | map b kl ka va z has aA=>
  simp only [Ck.sc,ai,adX]at hs;have hc:aA.map (bV.cells ρ)=aA.map (bV.cells bC):=List.map_congr_left fun k hk=>bV.yA h (adI.1 hs.2 k hk)
  simp only [Ck.den,h.b b hs.1.1.1,(SV.fF h hs.1.1.2).2,E.bR h hs.1.2,hc]
 | Ly b l p=>simp only [Ck.sc,adX]at hs;simp only [Ck.den,h.b b hs]
 | H7 b t e n a=>simp only [Ck.sc,ai,adX]at hs;simp only [Ck.den,h.b b hs.1.1,E.bR h hs.1.2,E.bR h hs.2]
 | ni b kl ka va z es=>
  simp only [Ck.sc,ai,adX]at hs;have hr:(fun i=>SV.ar ρ (nj es z i))=fun i=>SV.ar bC (nj es z i):=funext fun i=>(SV.fF h (BU hs.1.2 hs.2 i)).2
  rw [Ck.kj,Ck.kj,h.b b hs.1.1,(SV.fF h hs.1.2).2,hr]
theorem jP(h:fU c ρ bC){hp:List Ck}(hs:hp.all (Ck.sc c)=true):hp.map (Ck.den ρ)=hp.map (Ck.den bC):=
 List.map_congr_left fun k hk=>Ck.bR h (adI.1 hs k hk)
end
structure gg (ρ:Env) (c:cz):Prop where
 b:ρ.bv.length=c.b
 v:ρ.vv.length=c.v
 i:ρ.iv.length=c.i
 a:ρ.av.length=c.a
 bo:ρ.bo.length=c.bo
 p:ρ.pv.length=c.p
 r:ρ.lr.length=c.r
structure Ext.Fits (e:Ext) (c:cz):Prop where
 b:e.b.length=c.b
 v:e.v.length=c.v
 i:e.i.length=c.i
 a:e.a.length=c.a
 bo:e.bo.length=c.bo
 p:e.p.length=c.p
 r:e.r.length=c.r
def Env.Le(ρ bC:Env):Prop:= ∃x:Ext,bC=ρ.ext x
def Ext.zero:Ext:=⟨[],[],[],[],[],[],[]⟩
theorem Env.Mp(ρ:Env):ρ.ext Ext.zero=ρ:=by simp [Env.ext,Ext.zero]
theorem Env.Le.refl(ρ:Env):Env.Le ρ ρ:=⟨Ext.zero,(Env.Mp ρ).symm⟩
theorem Env.Le.trans{a b c:Env}(h:Env.Le a b)(k:Env.Le b c):Env.Le a c:=by
 obtain⟨x,rfl⟩:=h;obtain⟨y,rfl⟩:=k;exact⟨⟨x.b++y.b,x.v++y.v,x.i++y.i,x.a++y.a,x.bo++y.bo,x.p++y.p,x.r++y.r⟩,by simp [Env.ext]⟩
theorem Env.gi(ρ:Env)(e:Ext):Env.Le ρ (ρ.ext e):=⟨e,rfl⟩
theorem Env.PL(ρ:Env)(b:Nat):ρ.mz b=ρ.ext ⟨[b],[],[],[],[],[],[]⟩:=by simp [Env.ext,Env.mz]
theorem Env.PM(ρ:Env)(v:V1):ρ.gb v=ρ.ext ⟨[],[v],[],[],[],[],[]⟩:=by simp [Env.ext,Env.gb]
theorem lN{α:Type}(l m:List α)(d:α)(i:Nat)(h:i<l.length):l.getD i d=(l++m).getD i d:=by
 rw [List.getD_eq_getElem?_getD,List.getD_eq_getElem?_getD,adO h]
theorem Env.Le.agree{ρ bC:Env}{c:cz}(hl:gg ρ c)(h:Env.Le ρ bC):fU c ρ bC:=by
 obtain⟨x,rfl⟩:=h;exact⟨fun i hi=>lN _ _ _ i (by rw [hl.b];exact hi),fun i hi=>lN _ _ _ i (by rw [hl.v];exact hi),fun i hi=>lN _ _ _ i (by rw [hl.i];exact hi),
  fun i hi=>lN _ _ _ i (by rw [hl.a];exact hi),fun i hi=>lN _ _ _ i (by rw [hl.bo];exact hi),fun i hi=>lN _ _ _ i (by rw [hl.p];exact hi),fun i hi=>lN _ _ _ i (by rw [hl.r];exact hi),rfl⟩
theorem gg.ext{ρ:Env}{c d:cz}{e:Ext}(h:gg ρ c)(k:e.Fits d):gg (ρ.ext e) (c.add d):=
 ⟨by simp [Env.ext,cz.add,h.b,k.b],by simp [Env.ext,cz.add,h.v,k.v],by simp [Env.ext,cz.add,h.i,k.i],by simp [Env.ext,cz.add,h.a,k.a],by simp [Env.ext,cz.add,h.bo,k.bo],by simp [Env.ext,cz.add,h.p,k.p],by simp [Env.ext,cz.add,h.r,k.r]⟩
theorem Env.Le.take{ρ bC:Env}{c:cz}(hl:gg ρ c)(h:Env.Le ρ bC):bC.take c=ρ:=by
 obtain⟨x,rfl⟩:=h;obtain⟨h1,h2,h3,h4,h5,h6,h7⟩:=hl;simp [Env.take,Env.ext,←h1,←h2,←h3,←h4,←h5,←h6,←h7]
theorem BV{α:Type}: ∀(n:Nat) (f:List α→Prop),LY n f↔∃l,l.length=n∧f l
 | 0,f=>by
  simp only [LY];constructor
  ·intro h;exact⟨[],rfl,h⟩
  ·rintro ⟨l,hl,h⟩;rw [List.length_eq_zero_iff]at hl;subst hl;exact h
 | n+1,f=>by
  simp only [LY];constructor
  ·rintro ⟨x,h⟩;obtain⟨l,hl,h⟩:=(BV n _).1 h;exact⟨x::l,by simp [hl],h⟩
  ·rintro ⟨l,hl,h⟩;cases l with
   | nil=>cases hl
   | cons x l=>exact⟨x,(BV n _).2 ⟨l,by simpa using hl,h⟩⟩
theorem yB{α:Type}: ∀(n:Nat) (f:List α→Prop),xQ n f↔∀l,l.length=n→f l
 | 0,f=>by
  simp only [xQ];constructor
  ·intro h l hl;rw [List.length_eq_zero_iff]at hl;subst hl;exact h
  ·intro h;exact h [] rfl
 | n+1,f=>by
  simp only [xQ];constructor
  ·intro h l hl;cases l with
   | nil=>cases hl
   | cons x l=>exact(yB n _).1 (h x) l (by simpa using hl)
  ·intro h x;exact(yB n _).2 fun l hl=>h (x::l) (by simp [hl])
theorem jQ(c:cz)(f:Ext→Prop):vE c f↔∃e,e.Fits c∧f e:=by
 simp only [vE,BV];constructor
 ·rintro ⟨b,hb,v,hv,i,hi,a,ha,bo,SC,p,hp,r,hr,h⟩;exact⟨⟨b,v,i,a,bo,p,r⟩,⟨hb,hv,hi,ha,SC,hp,hr⟩,h⟩
 ·rintro ⟨⟨b,v,i,a,bo,p,r⟩,⟨hb,hv,hi,ha,SC,hp,hr⟩,h⟩;exact⟨b,hb,v,hv,i,hi,a,ha,bo,SC,p,hp,r,hr,h⟩
theorem oJ(c:cz)(f:Ext→Prop):xR c f↔∀e,e.Fits c→f e:=by
 simp only [xR,yB];constructor
 ·rintro h ⟨b,v,i,a,bo,p,r⟩ ⟨hb,hv,hi,ha,SC,hp,hr⟩;exact h b hb v hv i hi a ha bo SC p hp r hr
 ·intro h b hb v hv i hi a ha bo SC p hp r hr;exact h ⟨b,v,i,a,bo,p,r⟩ ⟨hb,hv,hi,ha,SC,hp,hr⟩
def kU(ρ bC:Env)(l:List eu):Prop:= ∀x∈l,x.holds ρ bC
section
variable {ρ bC:Env}
theorem tD(l:List eu)(q:Prop):Rb ρ bC l q↔kU ρ bC l∧q:=by
 induction l with
 | nil=>simp [Rb,kU]
 | cons x r ih=>
  simp only [Rb,ih,kU,List.mem_cons,forall_eq_or_imp,and_assoc]
theorem kU.app{a b:List eu}(h:kU ρ bC (a++b)):kU ρ bC a∧kU ρ bC b:=
 ⟨fun x hx=>h x (List.mem_append_left _ hx),fun x hx=>h x (List.mem_append_right _ hx)⟩
theorem rE{c:cz}(h:fU c ρ bC){x:eu}(ht:x.trivial c=true):x.holds ρ bC:=by
 cases x<;>simp only [eu.trivial,ai,beq_iff_eq,adX]at ht<;>simp only [eu.holds]
 case e x y=>obtain⟨rfl,hs⟩:=ht;rw [E.bR h hs]
 case a n x y=>obtain⟨⟨rfl,hs⟩,_⟩:=ht;intro j _;rw [E.bR h hs]
 case b x y=>obtain⟨rfl,hs⟩:=ht;rw [BE.bR h hs]
 case af x y=>obtain⟨rfl,hs⟩:=ht;exact E.bR h hs
 case v i j=>obtain⟨rfl,hs⟩:=ht;exact h.v _ hs
 case p i j=>obtain⟨rfl,hs⟩:=ht;exact h.p _ hs
 case bl i j=>obtain⟨rfl,hs⟩:=ht;exact h.b _ hs
 case rc i j=>obtain⟨rfl,hs⟩:=ht;exact h.r _ hs
theorem kU.all{c:cz}(h:fU c ρ bC){l:List eu}(hl:kU ρ bC (l.filter fun q=> !q.trivial c)):kU ρ bC l:=by
 intro x hx;by_cases ht:x.trivial c=true
 ·exact rE h ht
 ·exact hl x (ad7.2 ⟨hx,by simpa using ht⟩)
theorem kJ(s:Nat): ∀{x y:List Cut} {l:List eu} (v:Value),lp x y=some l→kU ρ bC l→c8 ρ s v x=c8 bC s v y
 | [],[],_,_,_,_=>rfl
 | [],_::_,l,_,h,hl=>by simp [lp]at h
 | _::_,[],l,_,h,hl=>by simp [lp]at h
 | a::r,b::r',l,v,h,hl=>by
  unfold lp at h;split at h
  ·rename_i x h1 h2 h3;cases h;have e1:=hl _ (adN);have e2:=hl _ (adP _ (adN));simp only [eu.holds]at e1 e2;simp only [c8,e1,e2,h1,h2,Option.map_none];exact kJ s _ h3 fun q hq=>hl q (adP _ (adP _ hq))
  ·rename_i m m' x h1 h2 h3;cases h;have e1:=hl _ (adN);have e2:=hl _ (adP _ (adN));have e3:=hl _ (adP _ (adP _ (adN)));simp only [eu.holds]at e1 e2 e3;simp only [c8,e1,e2,e3,h1,h2,Option.map_some];exact kJ s _ h3 fun q hq=>hl q (adP _ (adP _ (adP _ hq)))
  ·cases h
mutual
theorem np: ∀{x y:SV} {l:List eu},tE x y=some l→kU ρ bC l→x.val ρ=y.val bC∧x.cells ρ=y.cells bC
 | x,y,l,h,hl=>by
  unfold tE at h;split at h
  ·split at h
   ·rename_i hk;subst hk;cases h;have:=hl _ adN;simp only [eu.holds]at this;simp only [SV.val,SV.cells,this,and_self]
   ·cases h
  ·cases h;have:=hl _ adN;simp only [eu.holds]at this;simp only [SV.val,SV.cells,this,and_self]
  ·exact⟨rfl,rfl⟩
  ·exact⟨rfl,rfl⟩
  ·exact⟨rfl,rfl⟩
  ·exact⟨rfl,rfl⟩
  ·exact⟨rfl,rfl⟩
  ·exact⟨rfl,rfl⟩
  ·split at h
   ·rename_i hk;subst hk;cases h;have:=hl _ adN;simp only [eu.holds]at this;simp only [SV.val,SV.cells,this,and_self]
   ·cases h
  ·split at h
   ·rename_i hk;obtain⟨rfl,rfl⟩:=hk;cases h;have h1:=hl _ (adN);have h2:=hl _ (adP _ (adN));simp only [eu.holds]at h1 h2;simp only [SV.val,SV.cells,h1,h2,and_self]
   ·cases h
  ·split at h
   ·rename_i hk;obtain⟨rfl,rfl⟩:=hk;cases h;have h1:=hl _ (adN);have h2:=hl _ (adP _ (adN));simp only [eu.holds]at h1 h2;simp only [SV.val,SV.cells,h1,h2,and_self]
   ·cases h
  ·split at h
   ·rename_i hk;subst hk;cases h;have h1:=hl _ (adN);have h2:=hl _ (adP _ (adN));have h3:=hl _ (adP _ (adP _ (adN)));have h4:=hl _ (adP _ (adP _ (adP _ (adN))));simp only [eu.holds]at h1 h2 h3 h4;simp only [SV.val,SV.cells,h1,h2,h3,h4,and_self]
   ·cases h
  ·cases h;have:=hl _ adN;simp only [eu.holds]at this;simp only [SV.val,SV.cells,this,and_self]
  ·split at h
   ·rename_i hk;subst hk;exact⟨rfl,rfl⟩
   ·cases h
  ·cases h;have:=hl _ adN;simp only [eu.holds]at this;simp only [SV.val,SV.cells,this,and_self]
  ·cases h;have h1:=hl _ adN;have h2:=hl _ (adP _ adN);simp only [eu.holds]at h1 h2;simp only [SV.val,SV.cells,h1,h2,and_self]
  ·split at h
   ·rename_i hk;obtain⟨rfl,rfl⟩:=hk;cases h;have:=hl _ adN;simp only [eu.holds]at this;simp only [SV.val,SV.cells,this,and_self]
   ·cases h
  ·cases h;have:=hl _ adN;simp only [eu.holds,lH]at this;simp only [SV.val,SV.cells,this,nF,and_self]
  ·split at h
   ·rename_i hk;subst hk;have:=dt h hl;simp only [SV.val,SV.cells,this.1,and_self]
   ·cases h
  ·have:=dt h hl;simp only [SV.val,SV.cells,this.2,and_self]
  ·split at h
   ·rename_i hk;obtain⟨rfl,rfl⟩:=hk;cases h;rename_i k n a b;have:=hl _ adN;simp only [eu.holds,E.den,Int.toNat_natCast]at this;have e:al k n (a.den ρ)=al k n (b.den bC):=cG k n this;simp only [SV.val,SV.cells,e,and_self]
   ·cases h
  ·have:=dt h hl;simp only [SV.val,SV.cells,this.1,and_self]
  ·rw [adM]at h;obtain⟨z,hz,rfl⟩:=h;have h1:=hl _ adN;have h2:=np hz fun x hx=>hl x (adP _ hx)
   simp only [eu.holds]at h1;simp only [SV.val,SV.cells,h1,h2.1,and_self]
  ·cases h;have:=hl _ adN;simp only [eu.holds]at this;simp only [SV.val,SV.cells,this,and_self]
  ·cases h;have:=hl _ adN;simp only [eu.holds]at this;simp only [SV.val,SV.cells,this,and_self]
  ·cases h;have:=hl _ adN;simp only [eu.holds]at this;simp only [SV.val,SV.cells,this,and_self]
  ·split at h
   ·rename_i hk;subst hk;cases h;have:=hl _ adN;simp only [eu.holds,E.den]at this;simp only [SV.val,SV.cells,this,fj,and_self]
   ·cases h
  ·cases h;have:=hl _ adN;simp only [eu.holds,E.den]at this;simp only [SV.val,SV.cells,this,aC,if_true,and_self]
  ·split at h
   ·rename_i hk;subst hk;cases h;have:=hl _ adN;simp only [eu.holds,E.den]at this;simp only [SV.val,SV.cells,←this,fj,and_self]
   ·cases h
  ·cases h;have:=hl _ adN;simp only [eu.holds]at this;simp only [SV.val,SV.cells,this,and_self]
  ·cases h;have:=hl _ adN;simp only [eu.holds,E.den]at this;simp only [SV.val,SV.cells,this,kQ,if_true,and_self]
  ·split at h
   ·rename_i hk;subst hk;rw [adM]at h;obtain⟨z,hz,rfl⟩:=h;have h1:=hl _ (adN);simp only [eu.holds]at h1;simp only [SV.val,SV.cells,h1,kJ _ _ hz fun q hq=>hl q (adP _ hq),and_self]
   ·cases h
  ·cases h
theorem dt: ∀{x y:List SV} {l:List eu},fV x y=some l→kU ρ bC l→SV.bK ρ x=SV.bK bC y∧SV.ar ρ x=SV.ar bC y
 | [],[],l,h,hl=>⟨rfl,rfl⟩
 | [],_::_,l,h,hl=>by simp [fV]at h
 | _::_,[],l,h,hl=>by simp [fV]at h
 | a::r,b::r',l,h,hl=>by
  unfold fV at h;split at h
  ·rename_i p q hp hq;cases h;obtain⟨h1,h2⟩:=hl.app;have e1:=np hp h1;have e2:=dt hq h2;simp only [SV.bK,SV.ar,e1.1,e1.2,e2.1,e2.2,and_self]
  ·cases h
end
theorem nq: ∀{pat act:List (Nat×SV)} {l:List eu},mL pat act=some l→kU ρ bC l→
  ∀s v,look pat s=some v→∃v',look act s=some v'∧v.val ρ=v'.val bC
 | [],act,l,h,hl,s,v,hs=>by simp [look]at hs
 | (t,x)::r,act,l,h,hl,s,v,hs=>by
  unfold mL at h;split at h
  ·rename_i v' y ri hy;rw [adM]at h;obtain⟨z,hz,rfl⟩:=h;obtain⟨h1,h2⟩:=hl.app;unfold look at hs;split at hs
   ·rename_i sW;rw [beq_iff_eq]at sW;subst sW;cases hs;exact⟨v',ri,(np hz h1).1⟩
   ·exact nq hy h2 s v hs
  ·cases h
theorem iA(CY:ρ.va=bC.va)(N:Nat){n:E}(hn:(n.den ρ 0).toNat=N): ∀{pat act:List bV} {l:List eu},iN n pat act=some l→kU ρ bC l→
  ∀i,i<N→((pat.map (bV.cells ρ)).flatMap fun c=>c i)=(act.map (bV.cells bC)).flatMap fun c=>c i
 | [],[],l,h,hl,i,hi=>rfl
 | [],_::_,l,h,hl,i,hi=>by simp [iN]at h
 | _::_,[],l,h,hl,i,hi=>by simp [iN]at h
 | a::r,b::r',l,h,hl,i,hi=>by
  unfold iN at h;split at h
  ·rename_i ls Yw ha hb;split at h
   case isFalse=>cases h
   rename_i hk;rw [adM]at h;obtain⟨z,hz,rfl⟩:=h;have ih:=iA CY N hn hz (fun x hx=>hl x (List.mem_append_right _ hx)) i hi;simp only [ad1,List.flatMap_cons,ih];congr 1;obtain⟨ck,cw,ca⟩:=a;obtain⟨O9,Xj,LA⟩:=b;obtain⟨e1,e2⟩:=hk;simp only at ha hb e2;subst ha hb e2;simp only [bV.cells,dI];refine List.map_congr_left fun j _=>?_
   generalize i*cw+j=m;by_cases hm:m<ls.length
   ·rw [ad9 hm,ad9 (show m<Yw.length by omega)];have:=hl (.v ls[m] Yw[m]) (List.mem_append_left _ (aeu.2 ⟨(ls[m],Yw[m]),by
     rw [List.mem_iff_getElem?];exact⟨m,by rw [List.getElem?_zip_eq_some];exact⟨ad9 hm,ad9 (by omega)⟩⟩,rfl⟩))
    simp only [eu.holds]at this;simp only [Option.elim,this]
   ·rw [aeh (by omega),aeh (by omega)];rfl
  ·cases h
  rename_i Xk SD;split at h
  ·rename_i hk;rw [adM]at h;obtain⟨z,hz,rfl⟩:=h;have ih:=iA CY N hn hz (fun x hx=>hl x (adP _ hx)) i hi;have h1:=hl _ adN;simp only [ad1,List.flatMap_cons,ih];congr 1;obtain⟨ck,cw,ca⟩:=a;obtain⟨O9,Xj,LA⟩:=b;obtain⟨e1,e2⟩:=hk;simp only at e1 e2 h1;subst e1 e2;by_cases SE:ck= .str
   ·subst SE;simp only [if_true,eu.holds]at h1;simp only [bV.cells];rw [show ca.den ρ=LA.den bC from h1]
   rw [if_neg SE]at h1;simp only [eu.holds,fR,E.den]at h1;have hb: ∀j,j<cw→ca.den ρ (i*cw+j)=LA.den bC (i*cw+j):=by
    intro j hj;refine h1 _ ?_;rw [toNat_mul,hn];have:i*cw+cw≤N*cw:=by
     have:=Nat.mul_le_mul_right cw (show i+1≤N by omega)
     rwa [Nat.add_mul,Nat.one_mul]at this
    omega
   cases ck with
   | int k=>exact cG k cw hb
   | bool=>
    unfold bV.cells ou;exact List.map_congr_left fun j hj=>by rw [hb j (adU.1 hj)]
   | val v=>simp only [bV.cells,CY]
   | ptr=>
    unfold bV.cells xX;exact List.map_congr_left fun j hj=>by rw [hb j (adU.1 hj)]
   | bT=>rfl
   | str=>exact absurd rfl SE
   | cv=>
    simp only [bV.cells,dI];exact List.map_congr_left fun j hj=>by rw [hb j (adU.1 hj)]
   | Gk l=>exact absurd rfl (SD l l rfl)
   | pt q v=>exact absurd rfl (Xk q v)
  ·split at h
   ·rename_i hk;rw [adM]at h;obtain⟨z,hz,rfl⟩:=h;have ih:=iA CY N hn hz (fun x hx=>hl x (adP _ hx)) i hi;have h1:=hl _ adN;simp only [ad1,List.flatMap_cons,ih];congr 1;obtain⟨ck,cw,ca⟩:=a;obtain⟨O9,Xj,LA⟩:=b;obtain⟨e0,e1,e2⟩:=hk;simp only at e0 e1 e2 h1;subst e0 e1 e2;simp only [eu.holds,fR,E.den]at h1;simp only [bV.cells,dI];refine List.map_congr_left fun j hj=>?_
    rw [h1 _ ?_,C_];have ky:=adU.1 hj;rw [toNat_mul,hn];have:i*cw+cw≤N*cw:=by
     have:=Nat.mul_le_mul_right cw (show i+1≤N by omega)
     rwa [Nat.add_mul,Nat.one_mul]at this
    omega
   ·cases h
theorem jR(CY:ρ.va=bC.va): ∀{pat act:List bV} {l:List eu},iH pat act=some l→kU ρ bC l→pat.map (bV.cells ρ)=act.map (bV.cells bC)
 | [],[],l,h,hl=>rfl
 | [],_::_,l,h,hl=>by simp [iH]at h
 | _::_,[],l,h,hl=>by simp [iH]at h
 | a::r,b::r',l,h,hl=>by
  unfold iH at h;split at h
  ·cases h
  ·rename_i q v q' u Gx JU;split at h
   ·rename_i hw;rw [adM]at h;obtain⟨z,hz,rfl⟩:=h;have ih:=jR CY hz (fun x hx=>hl x (adP _ (adP _ (adP _ hx))));have h1:=hl _ adN;have h2:=hl _ (adP _ adN);have h3:=hl _ (adP _ (adP _ adN));simp only [eu.holds]at h1 h2 h3;rw [ad1,ad1,ih];congr 1;obtain⟨ck,cw,ca⟩:=a;obtain⟨O9,Xj,LA⟩:=b;simp only at Gx JU hw h3;subst Gx JU hw;funext i;simp only [bV.cells];rw [show ca.den ρ=LA.den bC from h3,h1,h2]
   ·cases h
  ·cases h
  rename_i SD U4 Xk;split at h
  ·rename_i hk;rw [adM]at h;obtain⟨z,hz,rfl⟩:=h;have ih:=jR CY hz (fun x hx=>hl x (adP _ hx));have h1:=hl _ adN;simp only [eu.holds]at h1;rw [ad1,ad1,ih];congr 1;obtain⟨ck,cw,ca⟩:=a;obtain⟨O9,Xj,LA⟩:=b;obtain⟨e1,e2⟩:=hk;simp only at e1 e2 h1;subst e1 e2;funext i;cases ck with
   | int k=>simp only [bV.cells];rw [show ca.den ρ=LA.den bC from h1]
   | bool=>simp only [bV.cells];rw [show ca.den ρ=LA.den bC from h1]
   | val v=>simp only [bV.cells,CY]
   | ptr=>simp only [bV.cells];rw [show ca.den ρ=LA.den bC from h1]
   | bT=>rfl
   | str=>simp only [bV.cells];rw [show ca.den ρ=LA.den bC from h1]
   | cv=>simp only [bV.cells];rw [show ca.den ρ=LA.den bC from h1]
   | Gk l=>exact(SD l rfl).elim
   | pt q v=>first | exact(Xk q v rfl).elim | exact(U4 q v rfl).elim | exact(Xk q v q v rfl rfl).elim | exact(U4 q v q v rfl rfl).elim
  ·cases h
theorem jh: ∀(f:Nat) (p act:List SV),SV.ar ρ (sm f p act)=SV.ar ρ act
 | 0,_,_=>rfl
 | f+1,p,act=>by
  unfold sm;split
  ·rfl
  ·rename_i k e p f' k' m a r h;cases h;simp only [SV.ar,SV.cells];rw [jh f];split
   ·rename_i hm;subst hm;simp [al,ej,E.den]
   ·simp only [SV.ar,SV.cells];have:al k' (m+1) (a.den ρ)=[.int k' (a.den ρ 0)]++al k' m ((jI a (.lit 1)).den ρ):=by
     unfold al;rw [List.range_succ_eq_map,ad1,List.map_map];simp only [List.singleton_append,List.cons.injEq,true_and];apply List.map_congr_left;intro j _;simp [Function.comp,dQ,E.den,Nat.add_comm]
    rw [this,ej];simp [E.den]
  ·rename_i k n e p f' x r h;cases h;split
   ·simp only [SV.ar,jh f]
   ·split
    ·rename_i c d hc hd;split
     ·rename_i kl e' DG;split
      ·rename_i O6;have h1:=(eF (ρ:=ρ) hc).1;have h2:=dY (ρ:=ρ) _ _ _ hd;have h3:=gy (ρ:=ρ) DG;rw [O6,List.length_replicate,ov]at h3;rw [h3,List.drop_zero]at h1;rw [SV.ar,SV.cells,jh f,h1,h2,List.take_append_drop]
      ·rfl
     ·rfl
    ·rfl
  ·rename_i h;cases h;simp only [SV.ar,jh f]
  ·rfl
theorem rF{z z':List SV}(hz:SV.ar ρ z=SV.ar bC z'): ∀{es U5:List (Nat×List SV)} {l:List eu},qL es U5=some l→kU ρ bC l→
  ((fun i=>pU es i)=fun i=>pU U5 i)∧(fun i=>SV.ar ρ (nj es z i))=fun i=>SV.ar bC (nj U5 z' i)
 | [],[],_,_,_=>⟨rfl,funext fun _=>hz⟩
 | [],_::_,_,h,_=>by simp [qL]at h
 | _::_,[],_,h,_=>by simp [qL]at h
 | (i,v)::r,(j,u)::r',l,h,hl=>by
  simp only [qL]at h;split at h
  ·rename_i CX;subst CX;split at h
   ·rename_i x y hx hy;cases h;obtain⟨h4,h5⟩:=hl.app;obtain⟨e1,e2⟩:=rF hz hy h5;have e3:=(dt hx h4).2;refine⟨funext fun k=>?_,funext fun k=>?_⟩
    ·simp only [pU];rw [show pU r k=pU r' k from congrFun e1 k]
    ·simp only [nj];split
     ·exact e3
     ·exact congrFun e2 k
   ·cases h
  ·cases h
theorem rG(CY:ρ.va=bC.va){x y:Ck}{l:List eu}(h:w7 x y=some l)(hl:kU ρ bC l):x.den ρ=y.den bC:=by
 unfold w7 at h;split at h
 ·rfl
 ·split at h
  ·rename_i hk;subst hk;rw [adM]at h;obtain⟨z,hz,rfl⟩:=h;have h1:=hl _ adN;simp only [eu.holds]at h1;simp only [Ck.den,h1,(dt hz fun x hx=>hl x (adP _ hx)).2,jh]
  ·cases h
 ·split at h
  ·rename_i hk;obtain⟨rfl,rfl,rfl⟩:=hk;rw [adM]at h;obtain⟨z,hz,rfl⟩:=h;have h1:=hl _ adN;have h2:=hl _ (adP _ adN);simp only [eu.holds]at h1 h2;have h3:=iA CY _ rfl hz fun x hx=>hl x (adP _ (adP _ hx))
   simp only [Ck.den,h1,h2];congr 1;unfold aF aH;rw [List.flatMap_def,List.flatMap_def];congr 1;refine List.map_congr_left fun i hi=>h3 i ?_
   rw [h2];exact adU.1 hi
  ·cases h
 ·cases h;have:=hl _ adN;exact this
 ·split at h
  ·rename_i hk;obtain⟨rfl,rfl⟩:=hk;cases h;have h1:=hl _ adN;have h2:=hl _ (adP _ adN);simp only [eu.holds]at h1 h2;simp only [Ck.den,h1,h2]
  ·cases h
 ·cases h;have:=hl _ adN;simp only [eu.holds]at this;simp only [Ck.den,this]
 ·cases h;have:=hl _ adN;simp only [eu.holds]at this;simp only [Ck.den,this]
 ·split at h
  ·rename_i hk;obtain⟨rfl,rfl,rfl⟩:=hk;split at h
   ·rename_i x y hx hy;cases h;have h1:=hl _ adN;have h2:=hl _ (adP _ adN);simp only [eu.holds]at h1 h2;have h3:kU ρ bC (x++y):=fun q hq=>hl q (adP _ (adP _ hq))
    obtain⟨h4,h5⟩:=h3.app;simp only [Ck.den,h1,h2,(dt hx h4).2,jR CY hy h5]
   ·cases h
  ·cases h
 ·split at h
  ·rename_i hk;obtain⟨rfl,rfl,rfl⟩:=hk;split at h
   ·rename_i x y hx hy;cases h;have h1:=hl _ adN;simp only [eu.holds]at h1;have h3:kU ρ bC (x++y):=fun q hq=>hl q (adP _ hq)
    obtain⟨h4,h5⟩:=h3.app;obtain⟨e1,e2⟩:=rF (dt hx h4).2 hy h5;rw [Ck.kj,Ck.kj,h1,(dt hx h4).2,e1,e2]
   ·cases h
  ·cases h
 ·split at h
  ·rename_i hk;obtain⟨rfl,rfl⟩:=hk;cases h;have h1:=hl _ adN;have h2:=hl _ (adP _ adN);have h3:=hl _ (adP _ (adP _ adN));simp only [eu.holds]at h1 h2 h3;simp only [Ck.den,h1];congr 1;rw [←h2];exact cG _ _ h3
  ·cases h
 ·split at h
  ·rename_i hk;obtain⟨rfl,rfl⟩:=hk;cases h;have h1:=hl _ adN;simp only [eu.holds]at h1;simp only [Ck.den,h1]
  ·cases h
 ·cases h
theorem rH(CY:ρ.va=bC.va): ∀{pat act:List Ck} {l:List eu},mM pat act=some l→kU ρ bC l→
  ∃more,act.map (Ck.den bC)=pat.map (Ck.den ρ)++more
 | [],act,l,h,hl=>⟨_,rfl⟩
 | a::r,[],l,h,hl=>by simp [mM]at h
 | a::r,b::r',l,h,hl=>by
  unfold mM at h;split at h
  ·rename_i p q hp hq;cases h;obtain⟨h1,h2⟩:=hl.app;obtain⟨m,hm⟩:=rH CY hq h2;exact⟨m,by simp only [ad1,List.cons_append,hm,rG CY hp h1]⟩
  ·cases h
end
end Go.RX
