/- Executor. -/
import Derived.Test.YtllcdnkfbeokhaaGreatRxP
open Bool renaming and_eq_true → ai
open Int renaming toNat_natCast → auD
open List renaming all_eq_true → auo, getD_eq_getElem?_getD → auO, getElem?_append_left → auu, getElem?_eq_getElem → auU, getElem?_eq_none → au0, map_cons → auK, mem_cons_of_mem → auw, mem_cons_self → aur, mem_filter → auR, mem_map → auL, mem_of_getElem? → auM, mem_range → auG
open Nat renaming blt_eq → auF
open Option renaming map_eq_some_iff → aus
namespace Go.RX
structure iF (c:cG) (ρ bJ:Env):Prop where
 b: ∀i,i<c.b→ρ.bv.getD i 0=bJ.bv.getD i 0
 v: ∀i,i<c.v→ρ.vv.getD i V1.nil=bJ.vv.getD i V1.nil
 i: ∀i,i<c.i→ρ.iv.getD i 0=bJ.iv.getD i 0
 a: ∀i,i<c.a→ρ.av.getD i (fun _=>0)=bJ.av.getD i (fun _=>0)
 bo: ∀i,i<c.bo→ρ.bo.getD i false=bJ.bo.getD i false
 p: ∀i,i<c.p→ρ.pv.getD i HP.emp=bJ.pv.getD i HP.emp
 r: ∀i,i<c.r→ρ.lr.getD i jA=bJ.lr.getD i jA
 va:ρ.va=bJ.va
section
variable {c:cG} {ρ bJ:Env}
theorem iF.symm(h:iF c ρ bJ):iF c bJ ρ:=
 ⟨fun i hi=>(h.b i hi).symm,fun i hi=>(h.v i hi).symm,fun i hi=>(h.i i hi).symm,fun i hi=>(h.a i hi).symm,fun i hi=>(h.bo i hi).symm,fun i hi=>(h.p i hi).symm,fun i hi=>(h.r i hi).symm,h.va.symm⟩
theorem E.bU(h:iF c ρ bJ){e:E}(hs:e.sc c=true):e.den ρ=e.den bJ:=by
 induction e with
 | lit n=>rfl
 | var i=>simp only [E.sc,auF]at hs;simp only [E.den,h.i i hs]
 | cU i=>simp only [E.sc,auF]at hs;simp only [E.den,h.a i hs]
 | TN a i mr IS=>simp only [E.sc,ai]at hs;simp only [E.den,mr hs.1,IS hs.2]
 | bin o k a b mr rz=>simp only [E.sc,ai]at hs;simp only [E.den,mr hs.1,rz hs.2]
 | wrap k a ih=>simp only [E.sc]at hs;simp only [E.den,ih hs]
 | nm a i v mr IS ihv=>simp only [E.sc,ai]at hs;simp only [E.den,mr hs.1.1,IS hs.1.2,ihv hs.2]
 | shift a o mr YM=>simp only [E.sc,ai]at hs;simp only [E.den,mr hs.1,YM hs.2]
 | jI a o n b mr YM ihn rz=>simp only [E.sc,ai]at hs;simp only [E.den,mr hs.1.1.1,YM hs.1.1.2,ihn hs.1.2,rz hs.2]
 | kc n a ih=>simp only [E.sc]at hs;simp only [E.den,ih hs]
 | tS b=>simp only [E.sc,auF]at hs;simp only [E.den,h.b b hs]
 | qV l=>rfl
 | Un a i mr IS=>simp only [E.sc,ai]at hs;simp only [E.den,mr hs.1,IS hs.2]
 | ry a i s mr IS ihs=>simp only [E.sc,ai]at hs;simp only [E.den,mr hs.1.1,IS hs.1.2,ihs hs.2]
 | Xu s ih=>simp only [E.sc]at hs;simp only [E.den,ih hs]
theorem BE.bU(h:iF c ρ bJ){b:BE}(hs:b.sc c=true):b.den ρ=b.den bJ:=by
 induction b with
 | lit n=>rfl
 | var i=>simp only [BE.sc,auF]at hs;simp only [BE.den,h.bo i hs]
 | eq a b=>simp only [BE.sc,ai]at hs;simp only [BE.den,E.bU h hs.1,E.bU h hs.2]
 | lt a b=>simp only [BE.sc,ai]at hs;simp only [BE.den,E.bU h hs.1,E.bU h hs.2]
 | le a b=>simp only [BE.sc,ai]at hs;simp only [BE.den,E.bU h hs.1,E.bU h hs.2]
 | nz a=>simp only [BE.sc]at hs;simp only [BE.den,E.bU h hs]
 | Xv n a b=>simp only [BE.sc,ai]at hs;simp only [BE.den,E.bU h hs.1,E.bU h hs.2]
 | not a ih=>simp only [BE.sc]at hs;simp only [BE.den,ih hs]
 | and a b mr rz=>simp only [BE.sc,ai]at hs;simp only [BE.den,mr hs.1,rz hs.2]
 | or a b mr rz=>simp only [BE.sc,ai]at hs;simp only [BE.den,mr hs.1,rz hs.2]
 | ite x t e ihx H9 H_=>simp only [BE.sc,ai]at hs;simp only [BE.den,ihx hs.1.1,H9 hs.1.2,H_ hs.2]
 | seq a b=>simp only [BE.sc,ai]at hs;simp only [BE.den,E.bU h hs.1,E.bU h hs.2]
 | DA i=>simp only [BE.sc,auF]at hs;simp only [BE.den,h.v i hs]
theorem BE.i_(h:iF c ρ bJ){b:BE}(hs:b.sc c=true):b.prop ρ↔b.prop bJ:=by
 rw [←BE.bQ,←BE.bQ,BE.bU h hs]
theorem KD(h:iF c ρ bJ)(s:Nat): ∀{cs:List Cut} (v:Value),cs.all (Cut.sc c)=true→dS ρ s v cs=dS bJ s v cs
 | [],_,_=>rfl
 | k::r,v,hs=>by
  simp only [List.all_cons,ai,Cut.sc]at hs;obtain⟨⟨⟨h1,h2⟩,h3⟩,h4⟩:=hs;have hm:(k.mx.map fun m=>(m.den ρ 0).toNat)=k.mx.map fun m=>(m.den bJ 0).toNat:=by
   cases hk:k.mx with
   | none=>rfl
   | some m=>
    rw [hk]at h3;simp only [Option.map_some,E.bU h h3]
  simp only [dS,E.bU h h1,E.bU h h2,hm];exact KD h s _ h4
mutual
theorem SV.wY(h:iF c ρ bJ): ∀{v:SV},v.sc c=true→v.val ρ=v.val bJ∧v.cells ρ=v.cells bJ
 | .int k e,hs=>by simp only [SV.sc]at hs;simp only [SV.val,SV.cells,E.bU h hs,and_self]
 | .bool b,hs=>by simp only [SV.sc]at hs;simp only [SV.val,SV.cells,BE.bU h hs,and_self]
 | .cu,_=>⟨rfl,rfl⟩
 | .bx,_=>⟨rfl,rfl⟩
 | .kD,_=>⟨rfl,rfl⟩
 | .pf,_=>⟨rfl,rfl⟩
 | .nT,_=>⟨rfl,rfl⟩
 | .undef,_=>⟨rfl,rfl⟩
 | .ptr b n,hs=>by simp only [SV.sc,auF]at hs;simp only [SV.val,SV.cells,h.b b hs,and_self]
 | .qX b i s n,hs=>by simp only [SV.sc,auF,ai]at hs;simp only [SV.val,SV.cells,h.b b hs.1,E.bU h hs.2,and_self]
 | .pv v i s n,hs=>by simp only [SV.sc,auF,ai]at hs;simp only [SV.val,SV.cells,h.v v hs.1,E.bU h hs.2,and_self]
 | .sl b i s n m,hs=>by simp only [SV.sc,auF,ai]at hs;simp only [SV.val,SV.cells,h.b b hs.1.1.1,E.bU h hs.1.1.2,E.bU h hs.1.2,E.bU h hs.2,and_self]
 | .vv i,hs=>by simp only [SV.sc,auF]at hs;simp only [SV.val,SV.cells,h.v i hs,and_self]
 | .str l,_=>⟨rfl,rfl⟩
 | .fn f jq,hs=>by simp only [SV.sc]at hs;simp only [SV.val,SV.cells,(SV.gO h hs).1,and_self]
 | .fm f jq,hs=>by simp only [SV.sc]at hs;simp only [SV.val,SV.cells,(SV.gO h hs).1,and_self]
 | .agg cs,hs=>by simp only [SV.sc]at hs;simp only [SV.val,SV.cells,(SV.gO h hs).2,and_self]
 | .dg k n a,hs=>by simp only [SV.sc]at hs;simp only [SV.val,SV.cells,E.bU h hs,and_self]
 | .oL vs,hs=>by simp only [SV.sc]at hs;simp only [SV.val,SV.cells,(SV.gO h hs).1,and_self]
 | .opt b v,hs=>by simp only [SV.sc,ai]at hs;simp only [SV.val,SV.cells,BE.bU h hs.1,(SV.wY h hs.2).1,and_self]
 | .FJ a i,hs=>by simp only [SV.sc]at hs;simp only [SV.val,SV.cells,E.bU h hs,h.va,and_self]
 | .Mk l,hs=>by simp only [SV.sc,auF]at hs;simp only [SV.val,SV.cells,h.b l hs,and_self]
 | .mp l,hs=>by simp only [SV.sc,auF]at hs;simp only [SV.val,SV.cells,h.b l hs,and_self]
 | .jE e,hs=>by simp only [SV.sc]at hs;simp only [SV.val,SV.cells,E.bU h hs,and_self]
 | .Ku e,hs=>by simp only [SV.sc]at hs;simp only [SV.val,SV.cells,E.bU h hs,and_self]
 | .mu e,hs=>by simp only [SV.sc]at hs;simp only [SV.val,SV.cells,E.bU h hs,and_self]
 | .PF t k e,hs=>by simp only [SV.sc]at hs;simp only [SV.val,SV.cells,E.bU h hs,and_self]
 | .Uo t l k,hs=>by simp only [SV.sc,auF]at hs;simp only [SV.val,SV.cells,h.b l hs,and_self]
 | .PG v i s c' n,hs=>by simp only [SV.sc,ai,auF]at hs;simp only [SV.val,SV.cells,h.v v hs.1,E.bU h hs.2,and_self]
 | .Ix b v,hs=>by simp only [SV.sc,ai,auF]at hs;simp only [SV.val,SV.cells,BE.bU h hs.1,h.v v hs.2,and_self]
 | .jJ v cs s,hs=>by simp only [SV.sc,auF,ai]at hs;simp only [SV.val,SV.cells,h.v v hs.1,KD h s _ hs.2,and_self]
theorem SV.gO(h:iF c ρ bJ): ∀{l:List SV},SV.qM c l=true→SV.bH ρ l=SV.bH bJ l∧SV.ao ρ l=SV.ao bJ l
 | [],_=>⟨rfl,rfl⟩
 | v::r,hs=>by
  simp only [SV.qM,ai]at hs;simp only [SV.bH,SV.ao,(SV.wY h hs.1).1,(SV.wY h hs.1).2,(SV.gO h hs.2).1,(SV.gO h hs.2).2,and_self]
end
theorem bP.Al(h:iF c ρ bJ){k:bP}(hs:k.sc c=true):k.cells ρ=k.cells bJ:=by
 obtain⟨ck,w,a⟩:=k;simp only [bP.sc,ai]at hs;have:=E.bU h hs.1;funext i;cases ck with
 | int q=>simp only [bP.cells];rw [show a.den ρ=a.den bJ from this]
 | bool=>simp only [bP.cells];rw [show a.den ρ=a.den bJ from this]
 | val v=>simp only [bP.cells,h.va]
 | ptr=>simp only [bP.cells];rw [show a.den ρ=a.den bJ from this]
 | bx=>rfl
 | str=>simp only [bP.cells];rw [show a.den ρ=a.den bJ from this]
 | cv=>simp only [bP.cells];rw [show a.den ρ=a.den bJ from this]
 | Ic l=>
  simp only [bP.cells,eA];refine List.map_congr_left fun j _=>?_
  cases hj:l[i*w+j]? with
  | none=>rfl
  | some n=>
   have:=auo.1 hs.2 n (auM hj);simp only [auF]at this;simp only [Option.elim,h.v n this]
 | pt q v=>
  have hq:=hs.2;simp only [CK.sc,ai,auF]at hq;simp only [bP.cells,eA];rw [show a.den ρ=a.den bJ from this,show q.den ρ=q.den bJ from E.bU h hq.1,h.v v hq.2]
theorem vA(h:iF c ρ bJ){aA:List bP}(hs:aA.all (bP.sc c)=true)(n:Nat):aG ρ n aA=aG bJ n aA:=by
 unfold aG;congr 1;exact List.map_congr_left fun k hk=>bP.Al h (auo.1 hs k hk)
theorem DS{c:cG}{z:List SV}(hz:SV.qM c z=true): ∀{es:List (Nat×List SV)},(es.all fun e=>SV.qM c e.2)=true→∀i,SV.qM c (nX es z i)=true
 | [],_,_=>hz
 | (k,v)::r,h,i=>by
  simp only [List.all_cons,ai]at h;unfold nX;split
  ·exact h.1
  ·exact DS hz h.2 i
theorem Ck.bU(h:iF c ρ bJ){ck:Ck}(hs:ck.sc c=true):ck.den ρ=ck.den bJ:=by
 cases ck with
 | emp=>rfl
 | row b w cs=>simp only [Ck.sc,ai,auF]at hs;simp only [Ck.den,h.b b hs.1,(SV.gO h hs.2).2]
 | cC md v t s n aA=>simp only [Ck.sc,ai,auF]at hs;simp only [Ck.den,h.v v hs.1.1,E.bU h hs.1.2,vA h hs.2]
 | abs i=>simp only [Ck.sc,auF]at hs;simp only [Ck.den,h.p i hs]
 | my l r s j=>simp only [Ck.sc,ai,auF]at hs;simp only [Ck.den,h.b l hs.1,h.r r hs.2]
 | MO b=>simp only [Ck.sc,auF]at hs;simp only [Ck.den,h.b b hs]
 | vB b=>simp only [Ck.sc,auF]at hs;simp only [Ck.den,h.b b hs]
 | map b kl ka va z has aA=>
  simp only [Ck.sc,ai,auF]at hs;have hc:aA.map (bP.cells ρ)=aA.map (bP.cells bJ):=List.map_congr_left fun k hk=>bP.Al h (auo.1 hs.2 k hk)
  simp only [Ck.den,h.b b hs.1.1.1,(SV.gO h hs.1.1.2).2,E.bU h hs.1.2,hc]
 | O0 b l p=>simp only [Ck.sc,auF]at hs;simp only [Ck.den,h.b b hs]
 | P4 b m=>simp only [Ck.sc,ai,auF]at hs;simp only [Ck.den,h.b b hs.1,h.b m hs.2]
 | KA b t e n a=>simp only [Ck.sc,ai,auF]at hs;simp only [Ck.den,h.b b hs.1.1,E.bU h hs.1.2,E.bU h hs.2]
 | vn b kl ka va z es=>
  simp only [Ck.sc,ai,auF]at hs;have hr:(fun i=>SV.ao ρ (nX es z i))=fun i=>SV.ao bJ (nX es z i):=funext fun i=>(SV.gO h (DS hs.1.2 hs.2 i)).2
  rw [Ck.ma,Ck.ma,h.b b hs.1.1,(SV.gO h hs.1.2).2,hr]
theorem lF(h:iF c ρ bJ){hp:List Ck}(hs:hp.all (Ck.sc c)=true):hp.map (Ck.den ρ)=hp.map (Ck.den bJ):=
 List.map_congr_left fun k hk=>Ck.bU h (auo.1 hs k hk)
end
structure iG (ρ:Env) (c:cG):Prop where
 b:ρ.bv.length=c.b
 v:ρ.vv.length=c.v
 i:ρ.iv.length=c.i
 a:ρ.av.length=c.a
 bo:ρ.bo.length=c.bo
 p:ρ.pv.length=c.p
 r:ρ.lr.length=c.r
structure Ext.Fits (e:Ext) (c:cG):Prop where
 b:e.b.length=c.b
 v:e.v.length=c.v
 i:e.i.length=c.i
 a:e.a.length=c.a
 bo:e.bo.length=c.bo
 p:e.p.length=c.p
 r:e.r.length=c.r
def Env.Le(ρ bJ:Env):Prop:= ∃x:Ext,bJ=ρ.ext x
def Ext.zero:Ext:=⟨[],[],[],[],[],[],[]⟩
theorem Env.P9(ρ:Env):ρ.ext Ext.zero=ρ:=by simp [Env.ext,Ext.zero]
theorem Env.Le.refl(ρ:Env):Env.Le ρ ρ:=⟨Ext.zero,(Env.P9 ρ).symm⟩
theorem Env.Le.trans{a b c:Env}(h:Env.Le a b)(k:Env.Le b c):Env.Le a c:=by
 obtain⟨x,rfl⟩:=h;obtain⟨y,rfl⟩:=k;exact⟨⟨x.b++y.b,x.v++y.v,x.i++y.i,x.a++y.a,x.bo++y.bo,x.p++y.p,x.r++y.r⟩,by simp [Env.ext]⟩
theorem Env.iS(ρ:Env)(e:Ext):Env.Le ρ (ρ.ext e):=⟨e,rfl⟩
theorem Env.UK(ρ:Env)(b:Nat):ρ.nV b=ρ.ext ⟨[b],[],[],[],[],[],[]⟩:=by simp [Env.ext,Env.nV]
theorem Env.UL(ρ:Env)(v:V1):ρ.iQ v=ρ.ext ⟨[],[v],[],[],[],[],[]⟩:=by simp [Env.ext,Env.iQ]
theorem nD{α:Type}(l m:List α)(d:α)(i:Nat)(h:i<l.length):l.getD i d=(l++m).getD i d:=by
 rw [auO,auO,auu h]
theorem Env.Le.e9{ρ bJ:Env}{c:cG}(hl:iG ρ c)(h:Env.Le ρ bJ):iF c ρ bJ:=by
 obtain⟨x,rfl⟩:=h;exact⟨fun i hi=>nD _ _ _ i (by rw [hl.b];exact hi),fun i hi=>nD _ _ _ i (by rw [hl.v];exact hi),fun i hi=>nD _ _ _ i (by rw [hl.i];exact hi),
  fun i hi=>nD _ _ _ i (by rw [hl.a];exact hi),fun i hi=>nD _ _ _ i (by rw [hl.bo];exact hi),fun i hi=>nD _ _ _ i (by rw [hl.p];exact hi),fun i hi=>nD _ _ _ i (by rw [hl.r];exact hi),rfl⟩
theorem iG.ext{ρ:Env}{c d:cG}{e:Ext}(h:iG ρ c)(k:e.Fits d):iG (ρ.ext e) (c.add d):=
 ⟨by simp [Env.ext,cG.add,h.b,k.b],by simp [Env.ext,cG.add,h.v,k.v],by simp [Env.ext,cG.add,h.i,k.i],by simp [Env.ext,cG.add,h.a,k.a],by simp [Env.ext,cG.add,h.bo,k.bo],by simp [Env.ext,cG.add,h.p,k.p],by simp [Env.ext,cG.add,h.r,k.r]⟩
theorem Env.Le.take{ρ bJ:Env}{c:cG}(hl:iG ρ c)(h:Env.Le ρ bJ):bJ.take c=ρ:=by
 obtain⟨x,rfl⟩:=h;obtain⟨h1,h2,h3,h4,h5,h6,h7⟩:=hl;simp [Env.take,Env.ext,←h1,←h2,←h3,←h4,←h5,←h6,←h7]
theorem DT{α:Type}: ∀(n:Nat) (f:List α→Prop),PN n f↔∃l,l.length=n∧f l
 | 0,f=>by
  simp only [PN];constructor
  ·intro h;exact⟨[],rfl,h⟩
  ·rintro ⟨l,hl,h⟩;rw [List.length_eq_zero_iff]at hl;subst hl;exact h
 | n+1,f=>by
  simp only [PN];constructor
  ·rintro ⟨x,h⟩;obtain⟨l,hl,h⟩:=(DT n _).1 h;exact⟨x::l,by simp [hl],h⟩
  ·rintro ⟨l,hl,h⟩;cases l with
   | nil=>cases hl
   | cons x l=>exact⟨x,(DT n _).2 ⟨l,by simpa using hl,h⟩⟩
theorem Am{α:Type}: ∀(n:Nat) (f:List α→Prop),zR n f↔∀l,l.length=n→f l
 | 0,f=>by
  simp only [zR];constructor
  ·intro h l hl;rw [List.length_eq_zero_iff]at hl;subst hl;exact h
  ·intro h;exact h [] rfl
 | n+1,f=>by
  simp only [zR];constructor
  ·intro h l hl;cases l with
   | nil=>cases hl
   | cons x l=>exact(Am n _).1 (h x) l (by simpa using hl)
  ·intro h x;exact(Am n _).2 fun l hl=>h (x::l) (by simp [hl])
theorem lG(c:cG)(f:Ext→Prop):xR c f↔∃e,e.Fits c∧f e:=by
 simp only [xR,DT];constructor
 ·rintro ⟨b,hb,v,hv,i,hi,a,ha,bo,YN,p,hp,r,hr,h⟩;exact⟨⟨b,v,i,a,bo,p,r⟩,⟨hb,hv,hi,ha,YN,hp,hr⟩,h⟩
 ·rintro ⟨⟨b,v,i,a,bo,p,r⟩,⟨hb,hv,hi,ha,YN,hp,hr⟩,h⟩;exact⟨b,hb,v,hv,i,hi,a,ha,bo,YN,p,hp,r,hr,h⟩
theorem qi(c:cG)(f:Ext→Prop):zS c f↔∀e,e.Fits c→f e:=by
 simp only [zS,Am];constructor
 ·rintro h ⟨b,v,i,a,bo,p,r⟩ ⟨hb,hv,hi,ha,YN,hp,hr⟩;exact h b hb v hv i hi a ha bo YN p hp r hr
 ·intro h b hb v hv i hi a ha bo YN p hp r hr;exact h ⟨b,v,i,a,bo,p,r⟩ ⟨hb,hv,hi,ha,YN,hp,hr⟩
def mN(ρ bJ:Env)(l:List g_):Prop:= ∀x∈l,x.holds ρ bJ
section
variable {ρ bJ:Env}
theorem vC(l:List g_)(q:Prop):XB ρ bJ l q↔mN ρ bJ l∧q:=by
 induction l with
 | nil=>simp [XB,mN]
 | cons x r ih=>
  simp only [XB,ih,mN,List.mem_cons,forall_eq_or_imp,and_assoc]
theorem mN.app{a b:List g_}(h:mN ρ bJ (a++b)):mN ρ bJ a∧mN ρ bJ b:=
 ⟨fun x hx=>h x (List.mem_append_left _ hx),fun x hx=>h x (List.mem_append_right _ hx)⟩
theorem tA{c:cG}(h:iF c ρ bJ){x:g_}(ht:x.trivial c=true):x.holds ρ bJ:=by
 cases x<;>simp only [g_.trivial,ai,beq_iff_eq,auF]at ht<;>simp only [g_.holds]
 case e x y=>obtain⟨rfl,hs⟩:=ht;rw [E.bU h hs]
 case a n x y=>obtain⟨⟨rfl,hs⟩,_⟩:=ht;intro j _;rw [E.bU h hs]
 case b x y=>obtain⟨rfl,hs⟩:=ht;rw [BE.bU h hs]
 case af x y=>obtain⟨rfl,hs⟩:=ht;exact E.bU h hs
 case v i j=>obtain⟨rfl,hs⟩:=ht;exact h.v _ hs
 case p i j=>obtain⟨rfl,hs⟩:=ht;exact h.p _ hs
 case bl i j=>obtain⟨rfl,hs⟩:=ht;exact h.b _ hs
 case rc i j=>obtain⟨rfl,hs⟩:=ht;exact h.r _ hs
theorem mN.all{c:cG}(h:iF c ρ bJ){l:List g_}(hl:mN ρ bJ (l.filter fun q=> !q.trivial c)):mN ρ bJ l:=by
 intro x hx;by_cases ht:x.trivial c=true
 ·exact tA h ht
 ·exact hl x (auR.2 ⟨hx,by simpa using ht⟩)
theorem mz(s:Nat): ∀{x y:List Cut} {l:List g_} (v:Value),m9 x y=some l→mN ρ bJ l→dS ρ s v x=dS bJ s v y
 | [],[],_,_,_,_=>rfl
 | [],_::_,l,_,h,hl=>by simp [m9]at h
 | _::_,[],l,_,h,hl=>by simp [m9]at h
 | a::r,b::r',l,v,h,hl=>by
  unfold m9 at h;split at h
  ·rename_i x h1 h2 h3;cases h;have e1:=hl _ (aur);have e2:=hl _ (auw _ (aur));simp only [g_.holds]at e1 e2;simp only [dS,e1,e2,h1,h2,Option.map_none];exact mz s _ h3 fun q hq=>hl q (auw _ (auw _ hq))
  ·rename_i m m' x h1 h2 h3;cases h;have e1:=hl _ (aur);have e2:=hl _ (auw _ (aur));have e3:=hl _ (auw _ (auw _ (aur)));simp only [g_.holds]at e1 e2 e3;simp only [dS,e1,e2,e3,h1,h2,Option.map_some];exact mz s _ h3 fun q hq=>hl q (auw _ (auw _ (auw _ hq)))
  ·cases h
mutual
theorem oS: ∀{x y:SV} {l:List g_},vD x y=some l→mN ρ bJ l→x.val ρ=y.val bJ∧x.cells ρ=y.cells bJ
 | x,y,l,h,hl=>by
  unfold vD at h;split at h
  ·split at h
   ·rename_i hk;subst hk;cases h;have:=hl _ aur;simp only [g_.holds]at this;simp only [SV.val,SV.cells,this,and_self]
   ·cases h
  ·cases h;have:=hl _ aur;simp only [g_.holds]at this;simp only [SV.val,SV.cells,this,and_self]
  ·exact⟨rfl,rfl⟩
  ·exact⟨rfl,rfl⟩
  ·exact⟨rfl,rfl⟩
  ·exact⟨rfl,rfl⟩
  ·exact⟨rfl,rfl⟩
  ·exact⟨rfl,rfl⟩
  ·split at h
   ·rename_i hk;subst hk;cases h;have:=hl _ aur;simp only [g_.holds]at this;simp only [SV.val,SV.cells,this,and_self]
   ·cases h
  ·split at h
   ·rename_i hk;obtain⟨rfl,rfl⟩:=hk;cases h;have h1:=hl _ (aur);have h2:=hl _ (auw _ (aur));simp only [g_.holds]at h1 h2;simp only [SV.val,SV.cells,h1,h2,and_self]
   ·cases h
  ·split at h
   ·rename_i hk;obtain⟨rfl,rfl⟩:=hk;cases h;have h1:=hl _ (aur);have h2:=hl _ (auw _ (aur));simp only [g_.holds]at h1 h2;simp only [SV.val,SV.cells,h1,h2,and_self]
   ·cases h
  ·split at h
   ·rename_i hk;subst hk;cases h;have h1:=hl _ (aur);have h2:=hl _ (auw _ (aur));have h3:=hl _ (auw _ (auw _ (aur)));have h4:=hl _ (auw _ (auw _ (auw _ (aur))));simp only [g_.holds]at h1 h2 h3 h4;simp only [SV.val,SV.cells,h1,h2,h3,h4,and_self]
   ·cases h
  ·cases h;have:=hl _ aur;simp only [g_.holds]at this;simp only [SV.val,SV.cells,this,and_self]
  ·split at h
   ·rename_i hk;subst hk;exact⟨rfl,rfl⟩
   ·cases h
  ·cases h;have:=hl _ aur;simp only [g_.holds]at this;simp only [SV.val,SV.cells,this,and_self]
  ·cases h;have h1:=hl _ aur;have h2:=hl _ (auw _ aur);simp only [g_.holds]at h1 h2;simp only [SV.val,SV.cells,h1,h2,and_self]
  ·split at h
   ·rename_i hk;obtain⟨rfl,rfl⟩:=hk;cases h;have:=hl _ aur;simp only [g_.holds]at this;simp only [SV.val,SV.cells,this,and_self]
   ·cases h
  ·cases h;have:=hl _ aur;simp only [g_.holds,nq]at this;simp only [SV.val,SV.cells,this,pc,and_self]
  ·split at h
   ·rename_i hk;subst hk;have:=dK h hl;simp only [SV.val,SV.cells,this.1,and_self]
   ·cases h
  ·split at h
   ·rename_i hk;subst hk;have:=dK h hl;simp only [SV.val,SV.cells,this.1,and_self]
   ·cases h
  ·have:=dK h hl;simp only [SV.val,SV.cells,this.2,and_self]
  ·split at h
   ·rename_i hk;obtain⟨rfl,rfl⟩:=hk;cases h;rename_i k n a b;have:=hl _ aur;simp only [g_.holds,E.den,auD]at this;have e:aj k n (a.den ρ)=aj k n (b.den bJ):=cE k n this;simp only [SV.val,SV.cells,e,and_self]
   ·cases h
  ·have:=dK h hl;simp only [SV.val,SV.cells,this.1,and_self]
  ·rw [aus]at h;obtain⟨z,hz,rfl⟩:=h;have h1:=hl _ aur;have h2:=oS hz fun x hx=>hl x (auw _ hx)
   simp only [g_.holds]at h1;simp only [SV.val,SV.cells,h1,h2.1,and_self]
  ·cases h;have:=hl _ aur;simp only [g_.holds]at this;simp only [SV.val,SV.cells,this,and_self]
  ·cases h;have:=hl _ aur;simp only [g_.holds]at this;simp only [SV.val,SV.cells,this,and_self]
  ·cases h;have:=hl _ aur;simp only [g_.holds]at this;simp only [SV.val,SV.cells,this,and_self]
  ·split at h
   ·rename_i hk;subst hk;cases h;have:=hl _ aur;simp only [g_.holds,E.den]at this;simp only [SV.val,SV.cells,this,eY,and_self]
   ·cases h
  ·cases h;have:=hl _ aur;simp only [g_.holds,E.den]at this;simp only [SV.val,SV.cells,this,cN,if_true,and_self]
  ·split at h
   ·rename_i hk;subst hk;cases h;have:=hl _ aur;simp only [g_.holds,E.den]at this;simp only [SV.val,SV.cells,←this,eY,and_self]
   ·cases h
  ·cases h;have:=hl _ aur;simp only [g_.holds]at this;simp only [SV.val,SV.cells,this,and_self]
  ·cases h;have:=hl _ aur;simp only [g_.holds,E.den]at this;simp only [SV.val,SV.cells,this,cc,if_true,and_self]
  ·split at h
   ·rename_i hk;subst hk;rw [aus]at h;obtain⟨z,hz,rfl⟩:=h;have h1:=hl _ (aur);simp only [g_.holds]at h1;simp only [SV.val,SV.cells,h1,mz _ _ hz fun q hq=>hl q (auw _ hq),and_self]
   ·cases h
  ·cases h
theorem dK: ∀{x y:List SV} {l:List g_},gV x y=some l→mN ρ bJ l→SV.bH ρ x=SV.bH bJ y∧SV.ao ρ x=SV.ao bJ y
 | [],[],l,h,hl=>⟨rfl,rfl⟩
 | [],_::_,l,h,hl=>by simp [gV]at h
 | _::_,[],l,h,hl=>by simp [gV]at h
 | a::r,b::r',l,h,hl=>by
  unfold gV at h;split at h
  ·rename_i p q hp hq;cases h;obtain⟨h1,h2⟩:=hl.app;have e1:=oS hp h1;have e2:=dK hq h2;simp only [SV.bH,SV.ao,e1.1,e1.2,e2.1,e2.2,and_self]
  ·cases h
end
theorem oT: ∀{pat act:List (Nat×SV)} {l:List g_},om pat act=some l→mN ρ bJ l→
  ∀s v,look pat s=some v→∃v',look act s=some v'∧v.val ρ=v'.val bJ
 | [],act,l,h,hl,s,v,hs=>by simp [look]at hs
 | (t,x)::r,act,l,h,hl,s,v,hs=>by
  unfold om at h;split at h
  ·rename_i v' y s7 hy;rw [aus]at h;obtain⟨z,hz,rfl⟩:=h;obtain⟨h1,h2⟩:=hl.app;unfold look at hs;split at hs
   ·rename_i uO;rw [beq_iff_eq]at uO;subst uO;cases hs;exact⟨v',s7,(oS hz h1).1⟩
   ·exact oT hy h2 s v hs
  ·cases h
theorem jV(CU:ρ.va=bJ.va)(N:Nat){n:E}(hn:(n.den ρ 0).toNat=N): ∀{pat act:List bP} {l:List g_},kq n pat act=some l→mN ρ bJ l→
  ∀i,i<N→((pat.map (bP.cells ρ)).flatMap fun c=>c i)=(act.map (bP.cells bJ)).flatMap fun c=>c i
 | [],[],l,h,hl,i,hi=>rfl
 | [],_::_,l,h,hl,i,hi=>by simp [kq]at h
 | _::_,[],l,h,hl,i,hi=>by simp [kq]at h
 | a::r,b::r',l,h,hl,i,hi=>by
  unfold kq at h;split at h
  ·rename_i ls ls' ha hb;split at h
   case isFalse=>cases h
   rename_i hk;rw [aus]at h;obtain⟨z,hz,rfl⟩:=h;have ih:=jV CU N hn hz (fun x hx=>hl x (List.mem_append_right _ hx)) i hi;simp only [auK,List.flatMap_cons,ih];congr 1;obtain⟨ck,cw,ca⟩:=a;obtain⟨TQ,cw',O1⟩:=b;obtain⟨e1,e2⟩:=hk;simp only at ha hb e2;subst ha hb e2;simp only [bP.cells,eA];refine List.map_congr_left fun j _=>?_
   generalize i*cw+j=m;by_cases hm:m<ls.length
   ·rw [auU hm,auU (show m<ls'.length by omega)];have:=hl (.v ls[m] ls'[m]) (List.mem_append_left _ (auL.2 ⟨(ls[m],ls'[m]),by
     rw [List.mem_iff_getElem?];exact⟨m,by rw [List.getElem?_zip_eq_some];exact⟨auU hm,auU (by omega)⟩⟩,rfl⟩))
    simp only [g_.holds]at this;simp only [Option.elim,this]
   ·rw [au0 (by omega),au0 (by omega)];rfl
  ·cases h
  rename_i hpt YO;split at h
  ·rename_i hk;rw [aus]at h;obtain⟨z,hz,rfl⟩:=h;have ih:=jV CU N hn hz (fun x hx=>hl x (auw _ hx)) i hi;have h1:=hl _ aur;simp only [auK,List.flatMap_cons,ih];congr 1;obtain⟨ck,cw,ca⟩:=a;obtain⟨TQ,cw',O1⟩:=b;obtain⟨e1,e2⟩:=hk;simp only at e1 e2 h1;subst e1 e2;by_cases YP:ck= .str
   ·subst YP;simp only [if_true,g_.holds]at h1;simp only [bP.cells];rw [show ca.den ρ=O1.den bJ from h1]
   rw [if_neg YP]at h1;simp only [g_.holds,iA,E.den]at h1;have hb: ∀j,j<cw→ca.den ρ (i*cw+j)=O1.den bJ (i*cw+j):=by
    intro j hj;refine h1 _ ?_;rw [toNat_mul,hn];have:i*cw+cw≤N*cw:=by
     have:=Nat.mul_le_mul_right cw (show i+1≤N by omega)
     rwa [Nat.add_mul,Nat.one_mul]at this
    omega
   cases ck with
   | int k=>exact cE k cw hb
   | bool=>
    unfold bP.cells cY;exact List.map_congr_left fun j hj=>by rw [hb j (auG.1 hj)]
   | val v=>simp only [bP.cells,CU]
   | ptr=>
    unfold bP.cells vg;exact List.map_congr_left fun j hj=>by rw [hb j (auG.1 hj)]
   | bx=>rfl
   | str=>exact absurd rfl YP
   | cv=>
    simp only [bP.cells,eA];exact List.map_congr_left fun j hj=>by rw [hb j (auG.1 hj)]
   | Ic l=>exact absurd rfl (YO l l rfl)
   | pt q v=>exact absurd rfl (hpt q v)
  ·split at h
   ·rename_i hk;rw [aus]at h;obtain⟨z,hz,rfl⟩:=h;have ih:=jV CU N hn hz (fun x hx=>hl x (auw _ hx)) i hi;have h1:=hl _ aur;simp only [auK,List.flatMap_cons,ih];congr 1;obtain⟨ck,cw,ca⟩:=a;obtain⟨TQ,cw',O1⟩:=b;obtain⟨e0,e1,e2⟩:=hk;simp only at e0 e1 e2 h1;subst e0 e1 e2;simp only [g_.holds,iA,E.den]at h1;simp only [bP.cells,eA];refine List.map_congr_left fun j hj=>?_
    rw [h1 _ ?_,PI];have lq:=auG.1 hj;rw [toNat_mul,hn];have:i*cw+cw≤N*cw:=by
     have:=Nat.mul_le_mul_right cw (show i+1≤N by omega)
     rwa [Nat.add_mul,Nat.one_mul]at this
    omega
   ·cases h
theorem lH(CU:ρ.va=bJ.va): ∀{pat act:List bP} {l:List g_},j_ pat act=some l→mN ρ bJ l→pat.map (bP.cells ρ)=act.map (bP.cells bJ)
 | [],[],l,h,hl=>rfl
 | [],_::_,l,h,hl=>by simp [j_]at h
 | _::_,[],l,h,hl=>by simp [j_]at h
 | a::r,b::r',l,h,hl=>by
  unfold j_ at h;split at h
  ·cases h
  ·rename_i q v q' u F5 MP;split at h
   ·rename_i hw;rw [aus]at h;obtain⟨z,hz,rfl⟩:=h;have ih:=lH CU hz (fun x hx=>hl x (auw _ (auw _ (auw _ hx))));have h1:=hl _ aur;have h2:=hl _ (auw _ aur);have h3:=hl _ (auw _ (auw _ aur));simp only [g_.holds]at h1 h2 h3;rw [auK,auK,ih];congr 1;obtain⟨ck,cw,ca⟩:=a;obtain⟨TQ,cw',O1⟩:=b;simp only at F5 MP hw h3;subst F5 MP hw;funext i;simp only [bP.cells];rw [show ca.den ρ=O1.den bJ from h3,h1,h2]
   ·cases h
  ·cases h
  rename_i YO acY hpt;split at h
  ·rename_i hk;rw [aus]at h;obtain⟨z,hz,rfl⟩:=h;have ih:=lH CU hz (fun x hx=>hl x (auw _ hx));have h1:=hl _ aur;simp only [g_.holds]at h1;rw [auK,auK,ih];congr 1;obtain⟨ck,cw,ca⟩:=a;obtain⟨TQ,cw',O1⟩:=b;obtain⟨e1,e2⟩:=hk;simp only at e1 e2 h1;subst e1 e2;funext i;cases ck with
   | int k=>simp only [bP.cells];rw [show ca.den ρ=O1.den bJ from h1]
   | bool=>simp only [bP.cells];rw [show ca.den ρ=O1.den bJ from h1]
   | val v=>simp only [bP.cells,CU]
   | ptr=>simp only [bP.cells];rw [show ca.den ρ=O1.den bJ from h1]
   | bx=>rfl
   | str=>simp only [bP.cells];rw [show ca.den ρ=O1.den bJ from h1]
   | cv=>simp only [bP.cells];rw [show ca.den ρ=O1.den bJ from h1]
   | Ic l=>exact(YO l rfl).elim
   | pt q v=>first | exact(hpt q v rfl).elim | exact(acY q v rfl).elim | exact(hpt q v q v rfl rfl).elim | exact(acY q v q v rfl rfl).elim
  ·cases h
theorem kN: ∀(f:Nat) (p act:List SV),SV.ao ρ (uk f p act)=SV.ao ρ act
 | 0,_,_=>rfl
 | f+1,p,act=>by
  unfold uk;split
  ·rfl
  ·rename_i k e p f' k' m a r h;cases h;simp only [SV.ao,SV.cells];rw [kN f];split
   ·rename_i hm;subst hm;simp [aj,cX,E.den]
   ·simp only [SV.ao,SV.cells];have:aj k' (m+1) (a.den ρ)=[.int k' (a.den ρ 0)]++aj k' m ((lA a (.lit 1)).den ρ):=by
     unfold aj;rw [List.range_succ_eq_map,auK,List.map_map];simp only [List.singleton_append,List.cons.injEq,true_and];apply List.map_congr_left;intro j _;simp [Function.comp,eT,E.den,Nat.add_comm]
    rw [this,cX];simp [E.den]
  ·rename_i k n e p f' x r h;cases h;split
   ·simp only [SV.ao,kN f]
   ·split
    ·rename_i c d hc hd;split
     ·rename_i kl e' s6;split
      ·rename_i Mw;have h1:=(fj (ρ:=ρ) hc).1;have h2:=ft (ρ:=ρ) _ _ _ hd;have h3:=ia (ρ:=ρ) s6;rw [Mw,List.length_replicate,pZ]at h3;rw [h3,List.drop_zero]at h1;rw [SV.ao,SV.cells,kN f,h1,h2,List.take_append_drop]
      ·rfl
     ·rfl
    ·rfl
  ·rename_i h;cases h;simp only [SV.ao,kN f]
  ·rfl
theorem tB{z z':List SV}(hz:SV.ao ρ z=SV.ao bJ z'): ∀{es Cj:List (Nat×List SV)} {l:List g_},sM es Cj=some l→mN ρ bJ l→
  ((fun i=>rJ es i)=fun i=>rJ Cj i)∧(fun i=>SV.ao ρ (nX es z i))=fun i=>SV.ao bJ (nX Cj z' i)
 | [],[],_,_,_=>⟨rfl,funext fun _=>hz⟩
 | [],_::_,_,h,_=>by simp [sM]at h
 | _::_,[],_,h,_=>by simp [sM]at h
 | (i,v)::r,(j,u)::r',l,h,hl=>by
  simp only [sM]at h;split at h
  ·rename_i nR;subst nR;split at h
   ·rename_i x y hx hy;cases h;obtain⟨h4,h5⟩:=hl.app;obtain⟨e1,e2⟩:=tB hz hy h5;have e3:=(dK hx h4).2;refine⟨funext fun k=>?_,funext fun k=>?_⟩
    ·simp only [rJ];rw [show rJ r k=rJ r' k from congrFun e1 k]
    ·simp only [nX];split
     ·exact e3
     ·exact congrFun e2 k
   ·cases h
  ·cases h
theorem tC(CU:ρ.va=bJ.va){x y:Ck}{l:List g_}(h:zo x y=some l)(hl:mN ρ bJ l):x.den ρ=y.den bJ:=by
 unfold zo at h;split at h
 ·rfl
 ·split at h
  ·rename_i hk;subst hk;rw [aus]at h;obtain⟨z,hz,rfl⟩:=h;have h1:=hl _ aur;simp only [g_.holds]at h1;simp only [Ck.den,h1,(dK hz fun x hx=>hl x (auw _ hx)).2,kN]
  ·cases h
 ·split at h
  ·rename_i hk;obtain⟨rfl,rfl,rfl⟩:=hk;rw [aus]at h;obtain⟨z,hz,rfl⟩:=h;have h1:=hl _ aur;have h2:=hl _ (auw _ aur);simp only [g_.holds]at h1 h2;have h3:=jV CU _ rfl hz fun x hx=>hl x (auw _ (auw _ hx))
   simp only [Ck.den,h1,h2];congr 1;unfold aG aM;rw [List.flatMap_def,List.flatMap_def];congr 1;refine List.map_congr_left fun i hi=>h3 i ?_
   rw [h2];exact auG.1 hi
  ·cases h
 ·cases h;have:=hl _ aur;exact this
 ·split at h
  ·rename_i hk;obtain⟨rfl,rfl⟩:=hk;cases h;have h1:=hl _ aur;have h2:=hl _ (auw _ aur);simp only [g_.holds]at h1 h2;simp only [Ck.den,h1,h2]
  ·cases h
 ·cases h;have:=hl _ aur;simp only [g_.holds]at this;simp only [Ck.den,this]
 ·cases h;have:=hl _ aur;simp only [g_.holds]at this;simp only [Ck.den,this]
 ·split at h
  ·rename_i hk;obtain⟨rfl,rfl,rfl⟩:=hk;split at h
   ·rename_i x y hx hy;cases h;have h1:=hl _ aur;have h2:=hl _ (auw _ aur);simp only [g_.holds]at h1 h2;have h3:mN ρ bJ (x++y):=fun q hq=>hl q (auw _ (auw _ hq))
    obtain⟨h4,h5⟩:=h3.app;simp only [Ck.den,h1,h2,(dK hx h4).2,lH CU hy h5]
   ·cases h
  ·cases h
 ·split at h
  ·rename_i hk;obtain⟨rfl,rfl,rfl⟩:=hk;split at h
   ·rename_i x y hx hy;cases h;have h1:=hl _ aur;simp only [g_.holds]at h1;have h3:mN ρ bJ (x++y):=fun q hq=>hl q (auw _ hq)
    obtain⟨h4,h5⟩:=h3.app;obtain⟨e1,e2⟩:=tB (dK hx h4).2 hy h5;rw [Ck.ma,Ck.ma,h1,(dK hx h4).2,e1,e2]
   ·cases h
  ·cases h
 ·split at h
  ·rename_i hk;obtain⟨rfl,rfl⟩:=hk;cases h;have h1:=hl _ aur;have h2:=hl _ (auw _ aur);have h3:=hl _ (auw _ (auw _ aur));simp only [g_.holds]at h1 h2 h3;simp only [Ck.den,h1];congr 1;rw [←h2];exact cE _ _ h3
  ·cases h
 ·split at h
  ·rename_i hk;obtain⟨rfl,rfl⟩:=hk;cases h;have h1:=hl _ aur;simp only [g_.holds]at h1;simp only [Ck.den,h1]
  ·cases h
 ·cases h;have h1:=hl _ aur;have h2:=hl _ (auw _ aur);simp only [g_.holds]at h1 h2;simp only [Ck.den,h1,h2]
 ·cases h
theorem tD(CU:ρ.va=bJ.va): ∀{pat act:List Ck} {l:List g_},oq pat act=some l→mN ρ bJ l→
  ∃more,act.map (Ck.den bJ)=pat.map (Ck.den ρ)++more
 | [],act,l,h,hl=>⟨_,rfl⟩
 | a::r,[],l,h,hl=>by simp [oq]at h
 | a::r,b::r',l,h,hl=>by
  unfold oq at h;split at h
  ·rename_i p q hp hq;cases h;obtain⟨h1,h2⟩:=hl.app;obtain⟨m,hm⟩:=tD CU hq h2;exact⟨m,by simp only [auK,List.cons_append,hm,tC CU hp h1]⟩
  ·cases h
end
end Go.RX
