/- Executor. -/
import Derived.Test.YtmgbbbmdbpbeeaaGreatRxP
open Bool renaming and_eq_true → ai
open Int renaming toNat_natCast → aiX
open List renaming all_eq_true → aiM, append_assoc → ajs, getElem?_append_left → aiR, getElem?_append_right → aiW, getElem?_eq_getElem → ajk, getElem?_eq_none → ajz, getElem?_eq_some_iff → aiN, getElem?_set_ne → ajj, map_congr_left → ajq, map_cons → ajb, mem_cons → ai0, mem_cons_of_mem → aiV, mem_cons_self → aiQ, mem_filter → aja, mem_map → ai_, mem_of_getElem? → ajn, mem_range → ai8
open List.cons renaming injEq → ai5
open Nat renaming blt_eq → ai3
open Option renaming map_eq_some_iff → aiO, map_some → ajI
open Option.some renaming injEq → aiP
namespace Go.RX
structure fR (c:cz) (ρ bF:Env):Prop where
 b: ∀i,i<c.b→ρ.bv.getD i 0=bF.bv.getD i 0
 v: ∀i,i<c.v→ρ.vv.getD i V1.nil=bF.vv.getD i V1.nil
 i: ∀i,i<c.i→ρ.iv.getD i 0=bF.iv.getD i 0
 a: ∀i,i<c.a→ρ.av.getD i (fun _=>0)=bF.av.getD i (fun _=>0)
 bo: ∀i,i<c.bo→ρ.bo.getD i false=bF.bo.getD i false
 p: ∀i,i<c.p→ρ.pv.getD i HP.emp=bF.pv.getD i HP.emp
 r: ∀i,i<c.r→ρ.lr.getD i h_=bF.lr.getD i h_
 va:ρ.va=bF.va
section
variable {c:cz} {ρ bF:Env}
theorem fR.symm(h:fR c ρ bF):fR c bF ρ:=
 ⟨fun i hi=>(h.b i hi).symm,fun i hi=>(h.v i hi).symm,fun i hi=>(h.i i hi).symm,fun i hi=>(h.a i hi).symm,fun i hi=>(h.bo i hi).symm,fun i hi=>(h.p i hi).symm,fun i hi=>(h.r i hi).symm,h.va.symm⟩
theorem E.bN(h:fR c ρ bF){e:E}(hs:e.sc c=true):e.den ρ=e.den bF:=by
 induction e with
 | lit n=>rfl
 | var i=>simp only [E.sc,ai3]at hs;simp only [E.den,h.i i hs]
 | aN i=>simp only [E.sc,ai3]at hs;simp only [E.den,h.a i hs]
 | P1 a i mg G_=>simp only [E.sc,ai]at hs;simp only [E.den,mg hs.1,G_ hs.2]
 | bin o k a b mg sE=>simp only [E.sc,ai]at hs;simp only [E.den,mg hs.1,sE hs.2]
 | wrap k a ih=>simp only [E.sc]at hs;simp only [E.den,ih hs]
 | sD a i v mg G_ Z1=>simp only [E.sc,ai]at hs;simp only [E.den,mg hs.1.1,G_ hs.1.2,Z1 hs.2]
 | shift a o mg UF=>simp only [E.sc,ai]at hs;simp only [E.den,mg hs.1,UF hs.2]
 | rl a o n b mg UF ihn sE=>simp only [E.sc,ai]at hs;simp only [E.den,mg hs.1.1.1,UF hs.1.1.2,ihn hs.1.2,sE hs.2]
 | kc n a ih=>simp only [E.sc]at hs;simp only [E.den,ih hs]
 | oZ b=>simp only [E.sc,ai3]at hs;simp only [E.den,h.b b hs]
 | o3 l=>rfl
 | Qn a i mg G_=>simp only [E.sc,ai]at hs;simp only [E.den,mg hs.1,G_ hs.2]
 | po a i s mg G_ Z2=>simp only [E.sc,ai]at hs;simp only [E.den,mg hs.1.1,G_ hs.1.2,Z2 hs.2]
 | S9 s ih=>simp only [E.sc]at hs;simp only [E.den,ih hs]
theorem BE.bN(h:fR c ρ bF){b:BE}(hs:b.sc c=true):b.den ρ=b.den bF:=by
 induction b with
 | lit n=>rfl
 | var i=>simp only [BE.sc,ai3]at hs;simp only [BE.den,h.bo i hs]
 | eq a b=>simp only [BE.sc,ai]at hs;simp only [BE.den,E.bN h hs.1,E.bN h hs.2]
 | lt a b=>simp only [BE.sc,ai]at hs;simp only [BE.den,E.bN h hs.1,E.bN h hs.2]
 | le a b=>simp only [BE.sc,ai]at hs;simp only [BE.den,E.bN h hs.1,E.bN h hs.2]
 | nz a=>simp only [BE.sc]at hs;simp only [BE.den,E.bN h hs]
 | S_ n a b=>simp only [BE.sc,ai]at hs;simp only [BE.den,E.bN h hs.1,E.bN h hs.2]
 | not a ih=>simp only [BE.sc]at hs;simp only [BE.den,ih hs]
 | and a b mg sE=>simp only [BE.sc,ai]at hs;simp only [BE.den,mg hs.1,sE hs.2]
 | or a b mg sE=>simp only [BE.sc,ai]at hs;simp only [BE.den,mg hs.1,sE hs.2]
 | ite x t e Xc Uk Ul=>simp only [BE.sc,ai]at hs;simp only [BE.den,Xc hs.1.1,Uk hs.1.2,Ul hs.2]
 | seq a b=>simp only [BE.sc,ai]at hs;simp only [BE.den,E.bN h hs.1,E.bN h hs.2]
theorem BE.gn(h:fR c ρ bF){b:BE}(hs:b.sc c=true):b.prop ρ↔b.prop bF:=by
 rw [←BE.bZ,←BE.bZ,BE.bN h hs]
theorem I2(h:fR c ρ bF)(s:Nat): ∀{cs:List Cut} (v:Value),cs.all (Cut.sc c)=true→cS ρ s v cs=cS bF s v cs
 | [],_,_=>rfl
 | k::r,v,hs=>by
  simp only [List.all_cons,ai,Cut.sc]at hs;obtain⟨⟨⟨h1,h2⟩,h3⟩,h4⟩:=hs;have hm:(k.mx.map fun m=>(m.den ρ 0).toNat)=k.mx.map fun m=>(m.den bF 0).toNat:=by
   cases hk:k.mx with
   | none=>rfl
   | some m=>
    rw [hk]at h3;simp only [ajI,E.bN h h3]
  simp only [cS,E.bN h h1,E.bN h h2,hm];exact I2 h s _ h4
mutual
theorem SV.uM(h:fR c ρ bF): ∀{v:SV},v.sc c=true→v.val ρ=v.val bF∧v.cells ρ=v.cells bF
 | .int k e,hs=>by simp only [SV.sc]at hs;simp only [SV.val,SV.cells,E.bN h hs,and_self]
 | .bool b,hs=>by simp only [SV.sc]at hs;simp only [SV.val,SV.cells,BE.bN h hs,and_self]
 | .gx,_=>⟨rfl,rfl⟩
 | .bU,_=>⟨rfl,rfl⟩
 | .mh,_=>⟨rfl,rfl⟩
 | .sF,_=>⟨rfl,rfl⟩
 | .qY,_=>⟨rfl,rfl⟩
 | .undef,_=>⟨rfl,rfl⟩
 | .ptr b n,hs=>by simp only [SV.sc,ai3]at hs;simp only [SV.val,SV.cells,h.b b hs,and_self]
 | .o5 b i s n,hs=>by simp only [SV.sc,ai3,ai]at hs;simp only [SV.val,SV.cells,h.b b hs.1,E.bN h hs.2,and_self]
 | .pv v i s n,hs=>by simp only [SV.sc,ai3,ai]at hs;simp only [SV.val,SV.cells,h.v v hs.1,E.bN h hs.2,and_self]
 | .sl b i s n m,hs=>by simp only [SV.sc,ai3,ai]at hs;simp only [SV.val,SV.cells,h.b b hs.1.1.1,E.bN h hs.1.1.2,E.bN h hs.1.2,E.bN h hs.2,and_self]
 | .vv i,hs=>by simp only [SV.sc,ai3]at hs;simp only [SV.val,SV.cells,h.v i hs,and_self]
 | .str l,_=>⟨rfl,rfl⟩
 | .fn f jK,hs=>by simp only [SV.sc]at hs;simp only [SV.val,SV.cells,(SV.fH h hs).1,and_self]
 | .agg cs,hs=>by simp only [SV.sc]at hs;simp only [SV.val,SV.cells,(SV.fH h hs).2,and_self]
 | .b_ k n a,hs=>by simp only [SV.sc]at hs;simp only [SV.val,SV.cells,E.bN h hs,and_self]
 | .mu vs,hs=>by simp only [SV.sc]at hs;simp only [SV.val,SV.cells,(SV.fH h hs).1,and_self]
 | .opt b v,hs=>by simp only [SV.sc,ai]at hs;simp only [SV.val,SV.cells,BE.bN h hs.1,(SV.uM h hs.2).1,and_self]
 | .DE a i,hs=>by simp only [SV.sc]at hs;simp only [SV.val,SV.cells,E.bN h hs,h.va,and_self]
 | .Kf l,hs=>by simp only [SV.sc,ai3]at hs;simp only [SV.val,SV.cells,h.b l hs,and_self]
 | .mp l,hs=>by simp only [SV.sc,ai3]at hs;simp only [SV.val,SV.cells,h.b l hs,and_self]
 | .n8 e,hs=>by simp only [SV.sc]at hs;simp only [SV.val,SV.cells,E.bN h hs,and_self]
 | .Kg e,hs=>by simp only [SV.sc]at hs;simp only [SV.val,SV.cells,E.bN h hs,and_self]
 | .kK e,hs=>by simp only [SV.sc]at hs;simp only [SV.val,SV.cells,E.bN h hs,and_self]
 | .MH t k e,hs=>by simp only [SV.sc]at hs;simp only [SV.val,SV.cells,E.bN h hs,and_self]
 | .GK b v,hs=>by simp only [SV.sc,ai,ai3]at hs;simp only [SV.val,SV.cells,BE.bN h hs.1,h.v v hs.2,and_self]
 | .kg v cs s,hs=>by simp only [SV.sc,ai3,ai]at hs;simp only [SV.val,SV.cells,h.v v hs.1,I2 h s _ hs.2,and_self]
theorem SV.fH(h:fR c ρ bF): ∀{l:List SV},SV.o6 c l=true→SV.bH ρ l=SV.bH bF l∧SV.aA ρ l=SV.aA bF l
 | [],_=>⟨rfl,rfl⟩
 | v::r,hs=>by
  simp only [SV.o6,ai]at hs;simp only [SV.bH,SV.aA,(SV.uM h hs.1).1,(SV.uM h hs.1).2,(SV.fH h hs.2).1,(SV.fH h hs.2).2,and_self]
end
theorem bR.yE(h:fR c ρ bF){k:bR}(hs:k.sc c=true):k.cells ρ=k.cells bF:=by
 obtain⟨ck,w,a⟩:=k;simp only [bR.sc,ai]at hs;have:=E.bN h hs.1;funext i;cases ck with
 | int q=>simp only [bR.cells];rw [show a.den ρ=a.den bF from this]
 | bool=>simp only [bR.cells];rw [show a.den ρ=a.den bF from this]
 | val v=>simp only [bR.cells,h.va]
 | ptr=>simp only [bR.cells];rw [show a.den ρ=a.den bF from this]
 | bU=>rfl
 | str=>simp only [bR.cells];rw [show a.den ρ=a.den bF from this]
 | cv=>simp only [bR.cells];rw [show a.den ρ=a.den bF from this]
 | Gt l=>
  simp only [bR.cells,cJ];refine ajq fun j _=>?_
  cases hj:l[i*w+j]? with
  | none=>rfl
  | some n=>
   have:=aiM.1 hs.2 n (ajn hj);simp only [ai3]at this;simp only [Option.elim,h.v n this]
 | pt q v=>
  have hq:=hs.2;simp only [CK.sc,ai,ai3]at hq;simp only [bR.cells,cJ];rw [show a.den ρ=a.den bF from this,show q.den ρ=q.den bF from E.bN h hq.1,h.v v hq.2]
theorem tb(h:fR c ρ bF){aD:List bR}(hs:aD.all (bR.sc c)=true)(n:Nat):aK ρ n aD=aK bF n aD:=by
 unfold aK;congr 1;exact ajq fun k hk=>bR.yE h (aiM.1 hs k hk)
theorem Cj{c:cz}{z:List SV}(hz:SV.o6 c z=true): ∀{es:List (Nat×List SV)},(es.all fun e=>SV.o6 c e.2)=true→∀i,SV.o6 c (mT es z i)=true
 | [],_,_=>hz
 | (k,v)::r,h,i=>by
  simp only [List.all_cons,ai]at h;unfold mT;split
  ·exact h.1
  ·exact Cj hz h.2 i
theorem Ck.bN(h:fR c ρ bF){ck:Ck}(hs:ck.sc c=true):ck.den ρ=ck.den bF:=by
 cases ck with
 | emp=>rfl
 | row b w cs=>simp only [Ck.sc,ai,ai3]at hs;simp only [Ck.den,h.b b hs.1,(SV.fH h hs.2).2]
 | bK md v t s n aD=>simp only [Ck.sc,ai,ai3]at hs;simp only [Ck.den,h.v v hs.1.1,E.bN h hs.1.2,tb h hs.2]
 | abs i=>simp only [Ck.sc,ai3]at hs;simp only [Ck.den,h.p i hs]
 | kP l r s j=>simp only [Ck.sc,ai,ai3]at hs;simp only [Ck.den,h.b l hs.1,h.r r hs.2]
 | Ki b=>simp only [Ck.sc,ai3]at hs;simp only [Ck.den,h.b b hs]
 | qZ b=>simp only [Ck.sc,ai3]at hs;simp only [Ck.den,h.b b hs]
 | map b kl ka va z has aD=>
  simp only [Ck.sc,ai,ai3]at hs;have hc:aD.map (bR.cells ρ)=aD.map (bR.cells bF):=ajq fun k hk=>bR.yE h (aiM.1 hs.2 k hk)
  simp only [Ck.den,h.b b hs.1.1.1,(SV.fH h hs.1.1.2).2,E.bN h hs.1.2,hc]
 | Td b l p=>simp only [Ck.sc,ai3]at hs;simp only [Ck.den,h.b b hs]
 | IL b t e n a=>simp only [Ck.sc,ai,ai3]at hs;simp only [Ck.den,h.b b hs.1.1,E.bN h hs.1.2,E.bN h hs.2]
 | sJ b kl ka va z es=>
  simp only [Ck.sc,ai,ai3]at hs;have hr:(fun i=>SV.aA ρ (mT es z i))=fun i=>SV.aA bF (mT es z i):=funext fun i=>(SV.fH h (Cj hs.1.2 hs.2 i)).2
  rw [Ck.kB,Ck.kB,h.b b hs.1.1,(SV.fH h hs.1.2).2,hr]
theorem jZ(h:fR c ρ bF){hp:List Ck}(hs:hp.all (Ck.sc c)=true):hp.map (Ck.den ρ)=hp.map (Ck.den bF):=
 ajq fun k hk=>Ck.bN h (aiM.1 hs k hk)
end
structure fq (ρ:Env) (c:cz):Prop where
 b:ρ.bv.length=c.b
 v:ρ.vv.length=c.v
 i:ρ.iv.length=c.i
 a:ρ.av.length=c.a
 bo:ρ.bo.length=c.bo
 p:ρ.pv.length=c.p
 r:ρ.lr.length=c.r
structure Ext.Fits (e:Ext) (c:cz):Prop where
 b:e.b.length=c.b
 v:e.v.length=c.v
 i:e.i.length=c.i
 a:e.a.length=c.a
 bo:e.bo.length=c.bo
 p:e.p.length=c.p
 r:e.r.length=c.r
def Env.Le(ρ bF:Env):Prop:= ∃x:Ext,bF=ρ.ext x
def Ext.zero:Ext:=⟨[],[],[],[],[],[],[]⟩
theorem Env.Ni(ρ:Env):ρ.ext Ext.zero=ρ:=by simp [Env.ext,Ext.zero]
theorem Env.Le.refl(ρ:Env):Env.Le ρ ρ:=⟨Ext.zero,(Env.Ni ρ).symm⟩
theorem Env.Le.trans{a b c:Env}(h:Env.Le a b)(k:Env.Le b c):Env.Le a c:=by
 obtain⟨x,rfl⟩:=h;obtain⟨y,rfl⟩:=k;exact⟨⟨x.b++y.b,x.v++y.v,x.i++y.i,x.a++y.a,x.bo++y.bo,x.p++y.p,x.r++y.r⟩,by simp [Env.ext]⟩
theorem Env.gg(ρ:Env)(e:Ext):Env.Le ρ (ρ.ext e):=⟨e,rfl⟩
theorem Env.QP(ρ:Env)(b:Nat):ρ.mj b=ρ.ext ⟨[b],[],[],[],[],[],[]⟩:=by simp [Env.ext,Env.mj]
theorem Env.QQ(ρ:Env)(v:V1):ρ.gf v=ρ.ext ⟨[],[v],[],[],[],[],[]⟩:=by simp [Env.ext,Env.gf]
theorem lS{α:Type}(l m:List α)(d:α)(i:Nat)(h:i<l.length):l.getD i d=(l++m).getD i d:=by
 rw [List.getD_eq_getElem?_getD,List.getD_eq_getElem?_getD,aiR h]
theorem Env.Le.dK{ρ bF:Env}{c:cz}(hl:fq ρ c)(h:Env.Le ρ bF):fR c ρ bF:=by
 obtain⟨x,rfl⟩:=h;exact⟨fun i hi=>lS _ _ _ i (by rw [hl.b];exact hi),fun i hi=>lS _ _ _ i (by rw [hl.v];exact hi),fun i hi=>lS _ _ _ i (by rw [hl.i];exact hi),
  fun i hi=>lS _ _ _ i (by rw [hl.a];exact hi),fun i hi=>lS _ _ _ i (by rw [hl.bo];exact hi),fun i hi=>lS _ _ _ i (by rw [hl.p];exact hi),fun i hi=>lS _ _ _ i (by rw [hl.r];exact hi),rfl⟩
theorem fq.ext{ρ:Env}{c d:cz}{e:Ext}(h:fq ρ c)(k:e.Fits d):fq (ρ.ext e) (c.add d):=
 ⟨by simp [Env.ext,cz.add,h.b,k.b],by simp [Env.ext,cz.add,h.v,k.v],by simp [Env.ext,cz.add,h.i,k.i],by simp [Env.ext,cz.add,h.a,k.a],by simp [Env.ext,cz.add,h.bo,k.bo],by simp [Env.ext,cz.add,h.p,k.p],by simp [Env.ext,cz.add,h.r,k.r]⟩
theorem Env.Le.take{ρ bF:Env}{c:cz}(hl:fq ρ c)(h:Env.Le ρ bF):bF.take c=ρ:=by
 obtain⟨x,rfl⟩:=h;obtain⟨h1,h2,h3,h4,h5,h6,h7⟩:=hl;simp [Env.take,Env.ext,←h1,←h2,←h3,←h4,←h5,←h6,←h7]
theorem Cm{α:Type}: ∀(n:Nat) (f:List α→Prop),MU n f↔∃l,l.length=n∧f l
 | 0,f=>by
  simp only [MU];constructor
  ·intro h;exact⟨[],rfl,h⟩
  ·rintro ⟨l,hl,h⟩;rw [List.length_eq_zero_iff]at hl;subst hl;exact h
 | n+1,f=>by
  simp only [MU];constructor
  ·rintro ⟨x,h⟩;obtain⟨l,hl,h⟩:=(Cm n _).1 h;exact⟨x::l,by simp [hl],h⟩
  ·rintro ⟨l,hl,h⟩;cases l with
   | nil=>cases hl
   | cons x l=>exact⟨x,(Cm n _).2 ⟨l,by simpa using hl,h⟩⟩
theorem yF{α:Type}: ∀(n:Nat) (f:List α→Prop),xQ n f↔∀l,l.length=n→f l
 | 0,f=>by
  simp only [xQ];constructor
  ·intro h l hl;rw [List.length_eq_zero_iff]at hl;subst hl;exact h
  ·intro h;exact h [] rfl
 | n+1,f=>by
  simp only [xQ];constructor
  ·intro h l hl;cases l with
   | nil=>cases hl
   | cons x l=>exact(yF n _).1 (h x) l (by simpa using hl)
  ·intro h x;exact(yF n _).2 fun l hl=>h (x::l) (by simp [hl])
theorem j1(c:cz)(f:Ext→Prop):vo c f↔∃e,e.Fits c∧f e:=by
 simp only [vo,Cm];constructor
 ·rintro ⟨b,hb,v,hv,i,hi,a,ha,bo,Ak,p,hp,r,hr,h⟩;exact⟨⟨b,v,i,a,bo,p,r⟩,⟨hb,hv,hi,ha,Ak,hp,hr⟩,h⟩
 ·rintro ⟨⟨b,v,i,a,bo,p,r⟩,⟨hb,hv,hi,ha,Ak,hp,hr⟩,h⟩;exact⟨b,hb,v,hv,i,hi,a,ha,bo,Ak,p,hp,r,hr,h⟩
theorem oB(c:cz)(f:Ext→Prop):xR c f↔∀e,e.Fits c→f e:=by
 simp only [xR,yF];constructor
 ·rintro h ⟨b,v,i,a,bo,p,r⟩ ⟨hb,hv,hi,ha,Ak,hp,hr⟩;exact h b hb v hv i hi a ha bo Ak p hp r hr
 ·intro h b hb v hv i hi a ha bo Ak p hp r hr;exact h ⟨b,v,i,a,bo,p,r⟩ ⟨hb,hv,hi,ha,Ak,hp,hr⟩
def ll(ρ bF:Env)(l:List fA):Prop:= ∀x∈l,x.holds ρ bF
section
variable {ρ bF:Env}
theorem tc(l:List fA)(q:Prop):Tg ρ bF l q↔ll ρ bF l∧q:=by
 induction l with
 | nil=>simp [Tg,ll]
 | cons x r ih=>
  simp only [Tg,ih,ll,ai0,forall_eq_or_imp,and_assoc]
theorem ll.app{a b:List fA}(h:ll ρ bF (a++b)):ll ρ bF a∧ll ρ bF b:=
 ⟨fun x hx=>h x (List.mem_append_left _ hx),fun x hx=>h x (List.mem_append_right _ hx)⟩
theorem rB{c:cz}(h:fR c ρ bF){x:fA}(ht:x.trivial c=true):x.holds ρ bF:=by
 cases x<;>simp only [fA.trivial,ai,beq_iff_eq,ai3]at ht<;>simp only [fA.holds]
 case e x y=>obtain⟨rfl,hs⟩:=ht;rw [E.bN h hs]
 case a n x y=>obtain⟨⟨rfl,hs⟩,_⟩:=ht;intro j _;rw [E.bN h hs]
 case b x y=>obtain⟨rfl,hs⟩:=ht;rw [BE.bN h hs]
 case af x y=>obtain⟨rfl,hs⟩:=ht;exact E.bN h hs
 case v i j=>obtain⟨rfl,hs⟩:=ht;exact h.v _ hs
 case p i j=>obtain⟨rfl,hs⟩:=ht;exact h.p _ hs
 case bl i j=>obtain⟨rfl,hs⟩:=ht;exact h.b _ hs
 case rc i j=>obtain⟨rfl,hs⟩:=ht;exact h.r _ hs
theorem ll.all{c:cz}(h:fR c ρ bF){l:List fA}(hl:ll ρ bF (l.filter fun q=> !q.trivial c)):ll ρ bF l:=by
 intro x hx;by_cases ht:x.trivial c=true
 ·exact rB h ht
 ·exact hl x (aja.2 ⟨hx,by simpa using ht⟩)
theorem kU(s:Nat): ∀{x y:List Cut} {l:List fA} (v:Value),lx x y=some l→ll ρ bF l→cS ρ s v x=cS bF s v y
 | [],[],_,_,_,_=>rfl
 | [],_::_,l,_,h,hl=>by simp [lx]at h
 | _::_,[],l,_,h,hl=>by simp [lx]at h
 | a::r,b::r',l,v,h,hl=>by
  unfold lx at h;split at h
  ·rename_i x h1 h2 h3;cases h;have e1:=hl _ (aiQ);have e2:=hl _ (aiV _ (aiQ));simp only [fA.holds]at e1 e2;simp only [cS,e1,e2,h1,h2,Option.map_none];exact kU s _ h3 fun q hq=>hl q (aiV _ (aiV _ hq))
  ·rename_i m m' x h1 h2 h3;cases h;have e1:=hl _ (aiQ);have e2:=hl _ (aiV _ (aiQ));have e3:=hl _ (aiV _ (aiV _ (aiQ)));simp only [fA.holds]at e1 e2 e3;simp only [cS,e1,e2,e3,h1,h2,ajI];exact kU s _ h3 fun q hq=>hl q (aiV _ (aiV _ (aiV _ hq)))
  ·cases h
mutual
theorem mW: ∀{x y:SV} {l:List fA},sK x y=some l→ll ρ bF l→x.val ρ=y.val bF∧x.cells ρ=y.cells bF
 | x,y,l,h,hl=>by
  unfold sK at h;split at h
  ·split at h
   ·rename_i hk;subst hk;cases h;have:=hl _ aiQ;simp only [fA.holds]at this;simp only [SV.val,SV.cells,this,and_self]
   ·cases h
  ·cases h;have:=hl _ aiQ;simp only [fA.holds]at this;simp only [SV.val,SV.cells,this,and_self]
  ·exact⟨rfl,rfl⟩
  ·exact⟨rfl,rfl⟩
  ·exact⟨rfl,rfl⟩
  ·exact⟨rfl,rfl⟩
  ·exact⟨rfl,rfl⟩
  ·exact⟨rfl,rfl⟩
  ·split at h
   ·rename_i hk;subst hk;cases h;have:=hl _ aiQ;simp only [fA.holds]at this;simp only [SV.val,SV.cells,this,and_self]
   ·cases h
  ·split at h
   ·rename_i hk;obtain⟨rfl,rfl⟩:=hk;cases h;have h1:=hl _ (aiQ);have h2:=hl _ (aiV _ (aiQ));simp only [fA.holds]at h1 h2;simp only [SV.val,SV.cells,h1,h2,and_self]
   ·cases h
  ·split at h
   ·rename_i hk;obtain⟨rfl,rfl⟩:=hk;cases h;have h1:=hl _ (aiQ);have h2:=hl _ (aiV _ (aiQ));simp only [fA.holds]at h1 h2;simp only [SV.val,SV.cells,h1,h2,and_self]
   ·cases h
  ·split at h
   ·rename_i hk;subst hk;cases h;have h1:=hl _ (aiQ);have h2:=hl _ (aiV _ (aiQ));have h3:=hl _ (aiV _ (aiV _ (aiQ)));have h4:=hl _ (aiV _ (aiV _ (aiV _ (aiQ))));simp only [fA.holds]at h1 h2 h3 h4;simp only [SV.val,SV.cells,h1,h2,h3,h4,and_self]
   ·cases h
  ·cases h;have:=hl _ aiQ;simp only [fA.holds]at this;simp only [SV.val,SV.cells,this,and_self]
  ·split at h
   ·rename_i hk;subst hk;exact⟨rfl,rfl⟩
   ·cases h
  ·cases h;have:=hl _ aiQ;simp only [fA.holds]at this;simp only [SV.val,SV.cells,this,and_self]
  ·cases h;have h1:=hl _ aiQ;have h2:=hl _ (aiV _ aiQ);simp only [fA.holds]at h1 h2;simp only [SV.val,SV.cells,h1,h2,and_self]
  ·split at h
   ·rename_i hk;obtain⟨rfl,rfl⟩:=hk;cases h;have:=hl _ aiQ;simp only [fA.holds]at this;simp only [SV.val,SV.cells,this,and_self]
   ·cases h
  ·cases h;have:=hl _ aiQ;simp only [fA.holds,lL]at this;simp only [SV.val,SV.cells,this,nr,and_self]
  ·split at h
   ·rename_i hk;subst hk;have:=de h hl;simp only [SV.val,SV.cells,this.1,and_self]
   ·cases h
  ·have:=de h hl;simp only [SV.val,SV.cells,this.2,and_self]
  ·split at h
   ·rename_i hk;obtain⟨rfl,rfl⟩:=hk;cases h;rename_i k n a b;have:=hl _ aiQ;simp only [fA.holds,E.den,aiX]at this;have e:aj k n (a.den ρ)=aj k n (b.den bF):=aP k n this;simp only [SV.val,SV.cells,e,and_self]
   ·cases h
  ·have:=de h hl;simp only [SV.val,SV.cells,this.1,and_self]
  ·rw [aiO]at h;obtain⟨z,hz,rfl⟩:=h;have h1:=hl _ aiQ;have h2:=mW hz fun x hx=>hl x (aiV _ hx)
   simp only [fA.holds]at h1;simp only [SV.val,SV.cells,h1,h2.1,and_self]
  ·cases h;have:=hl _ aiQ;simp only [fA.holds]at this;simp only [SV.val,SV.cells,this,and_self]
  ·cases h;have:=hl _ aiQ;simp only [fA.holds]at this;simp only [SV.val,SV.cells,this,and_self]
  ·cases h;have:=hl _ aiQ;simp only [fA.holds]at this;simp only [SV.val,SV.cells,this,and_self]
  ·split at h
   ·rename_i hk;subst hk;cases h;have:=hl _ aiQ;simp only [fA.holds,E.den]at this;simp only [SV.val,SV.cells,this,sG,and_self]
   ·cases h
  ·cases h;have:=hl _ aiQ;simp only [fA.holds,E.den]at this;simp only [SV.val,SV.cells,this,nu,if_true,and_self]
  ·split at h
   ·rename_i hk;subst hk;cases h;have:=hl _ aiQ;simp only [fA.holds,E.den]at this;simp only [SV.val,SV.cells,←this,sG,and_self]
   ·cases h
  ·cases h;have:=hl _ aiQ;simp only [fA.holds]at this;simp only [SV.val,SV.cells,this,and_self]
  ·cases h;have:=hl _ aiQ;simp only [fA.holds,E.den]at this;simp only [SV.val,SV.cells,this,bQ,if_true,and_self]
  ·split at h
   ·rename_i hk;subst hk;rw [aiO]at h;obtain⟨z,hz,rfl⟩:=h;have h1:=hl _ (aiQ);simp only [fA.holds]at h1;simp only [SV.val,SV.cells,h1,kU _ _ hz fun q hq=>hl q (aiV _ hq),and_self]
   ·cases h
  ·cases h
theorem de: ∀{x y:List SV} {l:List fA},fM x y=some l→ll ρ bF l→SV.bH ρ x=SV.bH bF y∧SV.aA ρ x=SV.aA bF y
 | [],[],l,h,hl=>⟨rfl,rfl⟩
 | [],_::_,l,h,hl=>by simp [fM]at h
 | _::_,[],l,h,hl=>by simp [fM]at h
 | a::r,b::r',l,h,hl=>by
  unfold fM at h;split at h
  ·rename_i p q hp hq;cases h;obtain⟨h1,h2⟩:=hl.app;have e1:=mW hp h1;have e2:=de hq h2;simp only [SV.bH,SV.aA,e1.1,e1.2,e2.1,e2.2,and_self]
  ·cases h
end
theorem mX: ∀{pat act:List (Nat×SV)} {l:List fA},mz pat act=some l→ll ρ bF l→
  ∀s v,look pat s=some v→∃v',look act s=some v'∧v.val ρ=v'.val bF
 | [],act,l,h,hl,s,v,hs=>by simp [look]at hs
 | (t,x)::r,act,l,h,hl,s,v,hs=>by
  unfold mz at h;split at h
  ·rename_i v' y rb hy;rw [aiO]at h;obtain⟨z,hz,rfl⟩:=h;obtain⟨h1,h2⟩:=hl.app;unfold look at hs;split at hs
   ·rename_i sy;rw [beq_iff_eq]at sy;subst sy;cases hs;exact⟨v',rb,(mW hz h1).1⟩
   ·exact mX hy h2 s v hs
  ·cases h
theorem iG(Ed:ρ.va=bF.va)(N:Nat){n:E}(hn:(n.den ρ 0).toNat=N): ∀{pat act:List bR} {l:List fA},iR n pat act=some l→ll ρ bF l→
  ∀i,i<N→((pat.map (bR.cells ρ)).flatMap fun c=>c i)=(act.map (bR.cells bF)).flatMap fun c=>c i
 | [],[],l,h,hl,i,hi=>rfl
 | [],_::_,l,h,hl,i,hi=>by simp [iR]at h
 | _::_,[],l,h,hl,i,hi=>by simp [iR]at h
 | a::r,b::r',l,h,hl,i,hi=>by
  unfold iR at h;split at h
  ·rename_i ls ls' ha hb;split at h
   case isFalse=>cases h
   rename_i hk;rw [aiO]at h;obtain⟨z,hz,rfl⟩:=h;have ih:=iG Ed N hn hz (fun x hx=>hl x (List.mem_append_right _ hx)) i hi;simp only [ajb,List.flatMap_cons,ih];congr 1;obtain⟨ck,cw,ca⟩:=a;obtain⟨QR,cw',P8⟩:=b;obtain⟨e1,e2⟩:=hk;simp only at ha hb e2;subst ha hb e2;simp only [bR.cells,cJ];refine ajq fun j _=>?_
   generalize i*cw+j=m;by_cases hm:m<ls.length
   ·rw [ajk hm,ajk (show m<ls'.length by omega)];have:=hl (.v ls[m] ls'[m]) (List.mem_append_left _ (ai_.2 ⟨(ls[m],ls'[m]),by
     rw [List.mem_iff_getElem?];exact⟨m,by rw [List.getElem?_zip_eq_some];exact⟨ajk hm,ajk (by omega)⟩⟩,rfl⟩))
    simp only [fA.holds]at this;simp only [Option.elim,this]
   ·rw [ajz (by omega),ajz (by omega)];rfl
  ·cases h
  rename_i hpt UG;split at h
  ·rename_i hk;rw [aiO]at h;obtain⟨z,hz,rfl⟩:=h;have ih:=iG Ed N hn hz (fun x hx=>hl x (aiV _ hx)) i hi;have h1:=hl _ aiQ;simp only [ajb,List.flatMap_cons,ih];congr 1;obtain⟨ck,cw,ca⟩:=a;obtain⟨QR,cw',P8⟩:=b;obtain⟨e1,e2⟩:=hk;simp only at e1 e2 h1;subst e1 e2;by_cases UH:ck= .str
   ·subst UH;simp only [if_true,fA.holds]at h1;simp only [bR.cells];rw [show ca.den ρ=P8.den bF from h1]
   rw [if_neg UH]at h1;simp only [fA.holds,fN,E.den]at h1;have hb: ∀j,j<cw→ca.den ρ (i*cw+j)=P8.den bF (i*cw+j):=by
    intro j hj;refine h1 _ ?_;rw [toNat_mul,hn];have:i*cw+cw≤N*cw:=by
     have:=Nat.mul_le_mul_right cw (show i+1≤N by omega)
     rwa [Nat.add_mul,Nat.one_mul]at this
    omega
   cases ck with
   | int k=>exact aP k cw hb
   | bool=>
    unfold bR.cells z_;exact ajq fun j hj=>by rw [hb j (ai8.1 hj)]
   | val v=>simp only [bR.cells,Ed]
   | ptr=>
    unfold bR.cells xV;exact ajq fun j hj=>by rw [hb j (ai8.1 hj)]
   | bU=>rfl
   | str=>exact absurd rfl UH
   | cv=>
    simp only [bR.cells,cJ];exact ajq fun j hj=>by rw [hb j (ai8.1 hj)]
   | Gt l=>exact absurd rfl (UG l l rfl)
   | pt q v=>exact absurd rfl (hpt q v)
  ·split at h
   ·rename_i hk;rw [aiO]at h;obtain⟨z,hz,rfl⟩:=h;have ih:=iG Ed N hn hz (fun x hx=>hl x (aiV _ hx)) i hi;have h1:=hl _ aiQ;simp only [ajb,List.flatMap_cons,ih];congr 1;obtain⟨ck,cw,ca⟩:=a;obtain⟨QR,cw',P8⟩:=b;obtain⟨e0,e1,e2⟩:=hk;simp only at e0 e1 e2 h1;subst e0 e1 e2;simp only [fA.holds,fN,E.den]at h1;simp only [bR.cells,cJ];refine ajq fun j hj=>?_
    rw [h1 _ ?_,MJ];have lH:=ai8.1 hj;rw [toNat_mul,hn];have:i*cw+cw≤N*cw:=by
     have:=Nat.mul_le_mul_right cw (show i+1≤N by omega)
     rwa [Nat.add_mul,Nat.one_mul]at this
    omega
   ·cases h
theorem nL(Ed:ρ.va=bF.va): ∀{pat act:List bR} {l:List fA},jS pat act=some l→ll ρ bF l→pat.map (bR.cells ρ)=act.map (bR.cells bF)
 | [],[],l,h,hl=>rfl
 | [],_::_,l,h,hl=>by simp [jS]at h
 | _::_,[],l,h,hl=>by simp [jS]at h
 | a::r,b::r',l,h,hl=>by
  unfold jS at h;split at h
  ·cases h
  ·cases h
  rename_i UG hpt;split at h
  ·rename_i hk;rw [aiO]at h;obtain⟨z,hz,rfl⟩:=h;have ih:=nL Ed hz (fun x hx=>hl x (aiV _ hx));have h1:=hl _ aiQ;simp only [fA.holds]at h1;rw [ajb,ajb,ih];congr 1;obtain⟨ck,cw,ca⟩:=a;obtain⟨QR,cw',P8⟩:=b;obtain⟨e1,e2⟩:=hk;simp only at e1 e2 h1;subst e1 e2;funext i;cases ck with
   | int k=>simp only [bR.cells];rw [show ca.den ρ=P8.den bF from h1]
   | bool=>simp only [bR.cells];rw [show ca.den ρ=P8.den bF from h1]
   | val v=>simp only [bR.cells,Ed]
   | ptr=>simp only [bR.cells];rw [show ca.den ρ=P8.den bF from h1]
   | bU=>rfl
   | str=>simp only [bR.cells];rw [show ca.den ρ=P8.den bF from h1]
   | cv=>simp only [bR.cells];rw [show ca.den ρ=P8.den bF from h1]
   | Gt l=>exact absurd rfl (UG l)
   | pt q v=>exact absurd rfl (hpt q v)
  ·cases h
theorem ju: ∀(f:Nat) (p act:List SV),SV.aA ρ (rO f p act)=SV.aA ρ act
 | 0,_,_=>rfl
 | f+1,p,act=>by
  unfold rO;split
  ·rfl
  ·rename_i k e p f' k' m a r h;cases h;simp only [SV.aA,SV.cells];rw [ju f];split
   ·rename_i hm;subst hm;simp [aj,dY,E.den]
   ·simp only [SV.aA,SV.cells];have:aj k' (m+1) (a.den ρ)=[.int k' (a.den ρ 0)]++aj k' m ((jT a (.lit 1)).den ρ):=by
     unfold aj;rw [List.range_succ_eq_map,ajb,List.map_map];simp only [List.singleton_append,ai5,true_and];apply ajq;intro j _;simp [Function.comp,dF,E.den,Nat.add_comm]
    rw [this,dY];simp [E.den]
  ·rename_i k n e p f' x r h;cases h;split
   ·simp only [SV.aA,ju f]
   ·split
    ·rename_i c d hc hd;split
     ·rename_i kl e' DS;split
      ·rename_i DT;have h1:=(eD (ρ:=ρ) hc).1;have h2:=dQ (ρ:=ρ) _ _ _ hd;have h3:=gD (ρ:=ρ) DS;rw [DT,List.length_replicate,oc]at h3;rw [h3,List.drop_zero]at h1;rw [SV.aA,SV.cells,ju f,h1,h2,List.take_append_drop]
      ·rfl
     ·rfl
    ·rfl
  ·rename_i h;cases h;simp only [SV.aA,ju f]
  ·rfl
theorem rC{z z':List SV}(hz:SV.aA ρ z=SV.aA bF z'): ∀{es Xa:List (Nat×List SV)} {l:List fA},qx es Xa=some l→ll ρ bF l→
  ((fun i=>pI es i)=fun i=>pI Xa i)∧(fun i=>SV.aA ρ (mT es z i))=fun i=>SV.aA bF (mT Xa z' i)
 | [],[],_,_,_=>⟨rfl,funext fun _=>hz⟩
 | [],_::_,_,h,_=>by simp [qx]at h
 | _::_,[],_,h,_=>by simp [qx]at h
 | (i,v)::r,(j,u)::r',l,h,hl=>by
  simp only [qx]at h;split at h
  ·rename_i pR;subst pR;split at h
   ·rename_i x y hx hy;cases h;obtain⟨h4,h5⟩:=hl.app;obtain⟨e1,e2⟩:=rC hz hy h5;have e3:=(de hx h4).2;refine⟨funext fun k=>?_,funext fun k=>?_⟩
    ·simp only [pI];rw [show pI r k=pI r' k from congrFun e1 k]
    ·simp only [mT];split
     ·exact e3
     ·exact congrFun e2 k
   ·cases h
  ·cases h
theorem rD(Ed:ρ.va=bF.va){x y:Ck}{l:List fA}(h:w6 x y=some l)(hl:ll ρ bF l):x.den ρ=y.den bF:=by
 unfold w6 at h;split at h
 ·rfl
 ·split at h
  ·rename_i hk;subst hk;rw [aiO]at h;obtain⟨z,hz,rfl⟩:=h;have h1:=hl _ aiQ;simp only [fA.holds]at h1;simp only [Ck.den,h1,(de hz fun x hx=>hl x (aiV _ hx)).2,ju]
  ·cases h
 ·split at h
  ·rename_i hk;obtain⟨rfl,rfl,rfl⟩:=hk;rw [aiO]at h;obtain⟨z,hz,rfl⟩:=h;have h1:=hl _ aiQ;have h2:=hl _ (aiV _ aiQ);simp only [fA.holds]at h1 h2;have h3:=iG Ed _ rfl hz fun x hx=>hl x (aiV _ (aiV _ hx))
   simp only [Ck.den,h1,h2];congr 1;unfold aK aW;rw [List.flatMap_def,List.flatMap_def];congr 1;refine ajq fun i hi=>h3 i ?_
   rw [h2];exact ai8.1 hi
  ·cases h
 ·cases h;have:=hl _ aiQ;exact this
 ·split at h
  ·rename_i hk;obtain⟨rfl,rfl⟩:=hk;cases h;have h1:=hl _ aiQ;have h2:=hl _ (aiV _ aiQ);simp only [fA.holds]at h1 h2;simp only [Ck.den,h1,h2]
  ·cases h
 ·cases h;have:=hl _ aiQ;simp only [fA.holds]at this;simp only [Ck.den,this]
 ·cases h;have:=hl _ aiQ;simp only [fA.holds]at this;simp only [Ck.den,this]
 ·split at h
  ·rename_i hk;obtain⟨rfl,rfl,rfl⟩:=hk;split at h
   ·rename_i x y hx hy;cases h;have h1:=hl _ aiQ;have h2:=hl _ (aiV _ aiQ);simp only [fA.holds]at h1 h2;have h3:ll ρ bF (x++y):=fun q hq=>hl q (aiV _ (aiV _ hq))
    obtain⟨h4,h5⟩:=h3.app;simp only [Ck.den,h1,h2,(de hx h4).2,nL Ed hy h5]
   ·cases h
  ·cases h
 ·split at h
  ·rename_i hk;obtain⟨rfl,rfl,rfl⟩:=hk;split at h
   ·rename_i x y hx hy;cases h;have h1:=hl _ aiQ;simp only [fA.holds]at h1;have h3:ll ρ bF (x++y):=fun q hq=>hl q (aiV _ hq)
    obtain⟨h4,h5⟩:=h3.app;obtain⟨e1,e2⟩:=rC (de hx h4).2 hy h5;rw [Ck.kB,Ck.kB,h1,(de hx h4).2,e1,e2]
   ·cases h
  ·cases h
 ·split at h
  ·rename_i hk;obtain⟨rfl,rfl⟩:=hk;cases h;have h1:=hl _ aiQ;have h2:=hl _ (aiV _ aiQ);have h3:=hl _ (aiV _ (aiV _ aiQ));simp only [fA.holds]at h1 h2 h3;simp only [Ck.den,h1];congr 1;rw [←h2];exact aP _ _ h3
  ·cases h
 ·split at h
  ·rename_i hk;obtain⟨rfl,rfl⟩:=hk;cases h;have h1:=hl _ aiQ;simp only [fA.holds]at h1;simp only [Ck.den,h1]
  ·cases h
 ·cases h
theorem rE(Ed:ρ.va=bF.va): ∀{pat act:List Ck} {l:List fA},my pat act=some l→ll ρ bF l→
  ∃more,act.map (Ck.den bF)=pat.map (Ck.den ρ)++more
 | [],act,l,h,hl=>⟨_,rfl⟩
 | a::r,[],l,h,hl=>by simp [my]at h
 | a::r,b::r',l,h,hl=>by
  unfold my at h;split at h
  ·rename_i p q hp hq;cases h;obtain⟨h1,h2⟩:=hl.app;obtain⟨m,hm⟩:=rE Ed hq h2;exact⟨m,by simp only [ajb,List.cons_append,hm,rD Ed hp h1]⟩
  ·cases h
end
theorem bz.tf{hs nf:List HP}{w:World}(h:bz hs w)(f:Nat→Option Nat)
  (he: ∀(j:Nat) x,nf[j]? =some x→(f j=none∧x=HP.emp)∨∃i,f j=some i∧hs[i]? =some x)
  (abu: ∀(j j' i:Nat),f j=some i→f j'=some i→j<nf.length→j'<nf.length→j=j'):bz nf w:=by
 obtain⟨S,hS⟩:=h;refine⟨fun j k=>match f j with | some i=>S i k | none=>False,⟨?_,?_⟩⟩
 ·intro j x hx;rcases he j x hx with⟨hf,rfl⟩ | ⟨i,hf,hi⟩
  ·simp only [hf];exact⟨fun k hk=>hk,fun k hk=>hk.elim⟩
  ·simp only [hf];exact hS.at_ i x hi
 ·intro j j' x y dI hx hy hw k;rcases he j x hx with⟨hf,rfl⟩ | ⟨i,hf,hi⟩
  ·simp only [hf];exact fun h=>h.elim
  ·rcases he j' y hy with⟨Tr,rfl⟩ | ⟨i',Tr,mv⟩
   ·simp only [Tr];exact fun _ h=>h
   ·simp only [hf,Tr];refine hS.apart i i' x y ?_ hi mv hw k;intro e;subst e;exact dI (abu j j' i hf Tr (aiN.1 hx).1 (aiN.1 hy).1)
theorem bz.I3{a b:List HP}{w:World}(h:bz (a++b) w):bz (a++[HP.emp]++b) w:=by
 refine h.tf (fun j=>if j<a.length then some j else if j=a.length then none else some (j - 1)) ?_ ?_
 ·intro j x hx;by_cases h1:j<a.length
  ·right;refine⟨j,by simp [h1],?_⟩;rw [ajs,aiR h1]at hx;rw [aiR h1];exact hx
  ·by_cases h2:j=a.length
   ·left;subst h2;refine⟨by simp,?_⟩;simp at hx;exact hx.symm
   ·right;refine⟨j - 1,by simp [h1,h2],?_⟩;rw [aiW (by simp;omega)]at hx;rw [aiW (by omega)];simp only [List.length_append,List.length_cons,List.length_nil]at hx;rw [show j - 1 - a.length=j - (a.length+(0+1)) by omega];exact hx
 ·intro j j' i hj lH _ _;split at hj<;>split at lH
  ·simp_all
  ·split at lH
   ·cases lH
   ·simp only [aiP]at hj lH;omega
  ·split at hj
   ·cases hj
   ·simp only [aiP]at hj lH;omega
  ·split at hj
   ·cases hj
   ·split at lH
    ·cases lH
    ·simp only [aiP]at hj lH;omega
theorem QS{α:Type}(a b:List α)(x y:α):(a++[x]++b).set a.length y=a++[y]++b:=by
 simp
theorem bz.add{a b:List HP}{w w':World}(h:bz (a++b) w)(h':HP)(S':Nat→Prop)(ji:w.heap.size≤w'.heap.size)
  (sI: ∀k,k<w.heap.size→w'.heap[k]? =w.heap[k]?) (hp:h'.p w' S') (dB: ∀k,S' k→w.heap.size≤k∧k<w'.heap.size):bz (a++[h']++b) w':=by
 obtain⟨S,hS⟩:=h.I3;have:=hS.new a.length h' (by simp) S' ji sI hp dB;rw [QS]at this;exact⟨_,this⟩
theorem bz.step{a b:List HP}{w w':World}{S:Nat→Nat→Prop}(h:Sep (a++b) S w)(i:Nat)(h0 h':HP)(hi:a[i]? =some h0)(hw:h0.wr=true)
  (S':Nat→Prop) (ji:w.heap.size≤w'.heap.size) (sI: ∀k,k<w.heap.size→¬S i k→w'.heap[k]? =w.heap[k]?)
  (hp:h'.p w' S') (dB: ∀k,S' k→S i k∨(w.heap.size≤k∧k<w'.heap.size)):bz (a.set i h'++b) w':=by
 have bX:i<a.length:=(aiN.1 hi).1;have:=h.step i h0 h' (by rw [aiR bX];exact hi) hw S' ji sI hp dB;rw [List.set_append_left _ _ bX]at this;exact⟨_,this⟩
theorem bz.XL{acc hp Fs:List HP}{w:World}(h:bz (acc++(hp++Fs)) w)(i:Nat)(c:HP)(hi:hp[i]? =some c):
  bz ((acc++[c])++(hp.set i HP.emp++Fs)) w:=by
 have bX:i<hp.length:=(aiN.1 hi).1;refine h.tf (fun j=>if j<acc.length then some j else if j=acc.length then some (acc.length+i)else if j=acc.length+1+i then none else some (j - 1)) ?_ ?_
 ·intro j x hx;by_cases h1:j<acc.length
  ·right;refine⟨j,by simp [h1],?_⟩;rw [ajs,aiR h1]at hx;rw [aiR h1];exact hx
  ·by_cases h2:j=acc.length
   ·right;subst h2;refine⟨acc.length+i,by simp,?_⟩;rw [ajs,aiW (Nat.le_refl _),Nat.sub_self]at hx;simp only [List.cons_append,List.nil_append,List.getElem?_cons_zero,aiP]at hx;subst hx;rw [aiW (by omega),aiR (by omega)];rw [show acc.length+i - acc.length=i by omega];exact hi
   ·rw [aiW (by simp;omega)]at hx;simp only [List.length_append,List.length_cons,List.length_nil]at hx;by_cases h3:j=acc.length+1+i
    ·left;subst h3;refine⟨by simp [h1,h2],?_⟩;rw [aiR (by simp;omega),show acc.length+1+i - (acc.length+(0+1))=i by omega,List.getElem?_set_self bX]at hx;cases hx;rfl
    ·right;refine⟨j - 1,by simp [h1,h2,h3],?_⟩;rw [aiW (by omega)];rw [List.getElem?_append]at hx ⊢;simp only [List.length_set]at hx;rw [show j - 1 - acc.length=j - (acc.length+(0+1)) by omega];split at hx
     ·rename_i h4;rw [ajj (by omega)]at hx;rw [if_pos h4];exact hx
     ·rename_i h4;rw [if_neg h4];exact hx
 ·intro j j' k hj lH hl Z3;have key: ∀j,(if j<acc.length then some j else if j=acc.length then some (acc.length+i)else if j=acc.length+1+i then none else some (j - 1))=some k→
    (j<acc.length∧k=j)∨(j=acc.length∧k=acc.length+i)∨(acc.length<j∧j≠acc.length+1+i∧k=j - 1):=by
   intro j h;split at h
   ·left;simp at h;omega
   ·split at h
    ·right;left;simp at h;omega
    ·split at h
     ·cases h
     ·right;right;simp at h;omega
  rcases key j hj with h | h | h<;>rcases key j' lH with h' | h' | h'<;>omega
theorem bz.XO{new hp Fs:List HP}{c:HP}{w:World}(h:bz ((c::new)++(hp++Fs)) w)(i:Nat)(hi:i<hp.length):
  bz (new++(hp.set i c++Fs)) w:=by
 refine h.tf (fun j=>if j=new.length+i then some 0 else some (j+1)) ?_ ?_
 ·intro j x hx;right;by_cases h1:j=new.length+i
  ·refine⟨0,by simp [h1],?_⟩;subst h1;rw [aiW (by omega),show new.length+i - new.length=i by omega,aiR (by simpa using hi),List.getElem?_set_self hi]at hx;simpa using hx
  ·refine⟨j+1,by simp [h1],?_⟩;rw [List.cons_append,List.getElem?_cons_succ];rw [List.getElem?_append]at hx ⊢;split at hx
   ·rename_i h2;rw [if_pos h2];exact hx
   ·rename_i h2;rw [if_neg h2];rw [List.getElem?_append]at hx ⊢;simp only [List.length_set]at hx;split at hx
    ·rename_i h3;rw [ajj (by omega)]at hx;rw [if_pos h3];exact hx
    ·rename_i h3;rw [if_neg h3];exact hx
 ·intro j j' k hj lH _ _;split at hj<;>split at lH<;>simp only [aiP]at hj lH<;>omega
theorem bz.rot{new hp Fs:List HP}{w:World}(h:bz (new++(hp++Fs)) w):bz ((hp++new)++Fs) w:=by
 refine h.tf (fun j=>if j<hp.length then some (new.length+j)else if j<hp.length+new.length then some (j - hp.length)else some j) ?_ ?_
 ·intro j x hx;right;by_cases h1:j<hp.length
  ·refine⟨new.length+j,by simp [h1],?_⟩;rw [ajs,aiR h1]at hx;rw [aiW (by omega),show new.length+j - new.length=j by omega,aiR h1];exact hx
  ·by_cases h2:j<hp.length+new.length
   ·refine⟨j - hp.length,by simp [h1,h2],?_⟩;rw [ajs,aiW (by omega),aiR (by omega)]at hx;rw [aiR (by omega)];exact hx
   ·refine⟨j,by simp [h1,h2],?_⟩;rw [ajs,aiW (by omega),aiW (by omega)]at hx;rw [aiW (by omega),aiW (by omega),show j - new.length - hp.length=j - hp.length - new.length by omega];exact hx
 ·intro j j' k hj lH _ _;have key: ∀j,(if j<hp.length then some (new.length+j)else if j<hp.length+new.length then some (j - hp.length)else some j)=some k→
    (j<hp.length∧k=new.length+j)∨(hp.length≤j∧j<hp.length+new.length∧k=j - hp.length)∨(hp.length+new.length≤j∧k=j):=by
   intro j h;split at h
   ·left;simp at h;omega
   ·split at h
    ·right;left;simp at h;omega
    ·right;right;simp at h;omega
  rcases key j hj with h | h | h<;>rcases key j' lH with h' | h' | h'<;>omega
def blank(hp:List HP)(use:List Nat):List HP:=use.foldl (fun h i=>h.set i HP.emp) hp
theorem ln(use:List Nat): ∀hp:List HP,(blank hp use).length=hp.length:=by
 induction use with
 | nil=>intro hp;rfl
 | cons i r ih=>intro hp;show(blank (hp.set i HP.emp) r).length=_;rw [ih];simp
theorem A_(use:List Nat): ∀(hp:List HP) (i:Nat) (c:HP),i ∉ use→blank (hp.set i c) use=(blank hp use).set i c:=by
 induction use with
 | nil=>intro hp i c _;rfl
 | cons j r ih=>
  intro hp i c hi;simp only [ai0,not_or]at hi;show blank ((hp.set i c).set j HP.emp) r=(blank (hp.set j HP.emp) r).set i c;rw [List.set_comm _ _ hi.1,ih _ _ _ hi.2]
theorem bz.tg: ∀{use:List Nat} {acc hp Fs:List HP} {w:World},bz (acc++(hp++Fs)) w→use.Nodup→(∀i∈use,i<hp.length)→
  bz ((acc++use.map (fun i=>hp.getD i HP.emp))++(blank hp use++Fs)) w
 | [],acc,hp,Fs,w,h,_,_=>by simpa [blank] using h
 | i::r,acc,hp,Fs,w,h,gu,bX=>by
  have hi:=bX i aiQ;rw [List.nodup_cons]at gu;have h1:=h.XL i (hp.getD i HP.emp) (by rw [List.getD_eq_getElem?_getD];simp [hi]);have h2:=bz.tg (use:=r) h1 gu.2 (fun j hj=>by simpa using bX j (aiV _ hj));have e:r.map (fun j=>(hp.set i HP.emp).getD j HP.emp)=r.map (fun j=>hp.getD j HP.emp):=by
   refine ajq fun j hj=>?_
   rw [List.getD_eq_getElem?_getD,List.getD_eq_getElem?_getD,ajj];rintro rfl;exact gu.1 hj
  rw [e,ajs acc]at h2;exact h2
theorem iU: ∀(use:List Nat) (hp new:List HP),use.Nodup→kj HP.emp hp use new=kj HP.emp (blank hp use) use new
 | [],hp,new,_=>rfl
 | i::r,hp,c::cs,gu=>by
  rw [List.nodup_cons]at gu;show kj HP.emp (hp.set i c) r cs=kj HP.emp ((blank (hp.set i HP.emp) r).set i c) r cs;rw [←A_ r _ _ _ gu.1,List.set_set];exact iU r _ _ gu.2
 | i::r,hp,[],gu=>by
  rw [List.nodup_cons]at gu;show kj HP.emp (hp.set i HP.emp) r []=kj HP.emp ((blank (hp.set i HP.emp) r).set i HP.emp) r [];rw [←A_ r _ _ _ gu.1,List.set_set];exact iU r _ _ gu.2
theorem bz.kR: ∀{use:List Nat} {new hp Fs:List HP} {w:World},bz (new++(hp++Fs)) w→(∀i∈use,i<hp.length)→(∀i∈use,hp[i]? =some HP.emp∨True)→
  bz (kj HP.emp hp use new++Fs) w
 | [],new,hp,Fs,w,h,_,_=>h.rot
 | i::r,c::cs,hp,Fs,w,h,bX,_=>by
  have hi:=bX i aiQ;exact bz.kR (use:=r) (h.XO i hi) (fun j hj=>by simpa using bX j (aiV _ hj)) fun _ _=> .inr trivial
 | i::r,[],hp,Fs,w,h,bX,_=>by
  have hi:=bX i aiQ;have h1:=(bz.I3 (a:=[]) h);exact bz.kR (use:=r) (new:=[]) (bz.XO (new:=[]) h1 i hi) (fun j hj=>by simpa using bX j (aiV _ hj)) fun _ _=> .inr trivial
theorem lB{α β:Type}(f:α→β)(e:α): ∀(use:List Nat) (hp new:List α),(kj e hp use new).map f=kj (f e) (hp.map f) use (new.map f)
 | [],hp,new=>by simp [kj]
 | i::r,hp,c::cs=>by simp only [kj,ajb];rw [lB f e r,List.map_set]
 | i::r,hp,[]=>by simp only [kj,List.map_nil];rw [lB f e r,List.map_set];rfl
end Go.RX
