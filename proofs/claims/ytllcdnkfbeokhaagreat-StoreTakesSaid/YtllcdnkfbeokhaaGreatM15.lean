/- Executor. -/
import Derived.Test.YtllcdnkfbeokhaaGreatRxP
open Bool renaming and_eq_true → ai
open Int renaming toNat_natCast → aqD
open List renaming all_eq_true → aqn, getD_eq_getElem?_getD → aqN, getElem?_append_left → aqs, getElem?_eq_none → aq3, map_cons → aqP, mem_cons_of_mem → aqv, mem_cons_self → aqr, mem_filter → aqL, mem_map → aqV, mem_of_getElem? → aqG, mem_range → aqE
open Nat renaming blt_eq → aqB
open Option renaming map_eq_some_iff → aqq
namespace Go.RX
structure g_ (c:ct) (ρ bF:Env):Prop where
 b: ∀i,i<c.b→ρ.bv.getD i 0=bF.bv.getD i 0
 v: ∀i,i<c.v→ρ.vv.getD i V1.nil=bF.vv.getD i V1.nil
 i: ∀i,i<c.i→ρ.iv.getD i 0=bF.iv.getD i 0
 a: ∀i,i<c.a→ρ.av.getD i (fun _=>0)=bF.av.getD i (fun _=>0)
 bo: ∀i,i<c.bo→ρ.bo.getD i false=bF.bo.getD i false
 p: ∀i,i<c.p→ρ.pv.getD i HP.emp=bF.pv.getD i HP.emp
 r: ∀i,i<c.r→ρ.lr.getD i je=bF.lr.getD i je
 va:ρ.va=bF.va
section
variable {c:ct} {ρ bF:Env}
theorem g_.symm(h:g_ c ρ bF):g_ c bF ρ:=
 ⟨fun i hi=>(h.b i hi).symm,fun i hi=>(h.v i hi).symm,fun i hi=>(h.i i hi).symm,fun i hi=>(h.a i hi).symm,fun i hi=>(h.bo i hi).symm,fun i hi=>(h.p i hi).symm,fun i hi=>(h.r i hi).symm,h.va.symm⟩
theorem E.bN(h:g_ c ρ bF){e:E}(hs:e.sc c=true):e.den ρ=e.den bF:=by
 induction e with
 | lit n=>rfl
 | var i=>simp only [E.sc,aqB]at hs;simp only [E.den,h.i i hs]
 | cI i=>simp only [E.sc,aqB]at hs;simp only [E.den,h.a i hs]
 | Qk a i lC Gu=>simp only [E.sc,ai]at hs;simp only [E.den,lC hs.1,Gu hs.2]
 | bin o k a b lC qj=>simp only [E.sc,ai]at hs;simp only [E.den,lC hs.1,qj hs.2]
 | wrap k a ih=>simp only [E.sc]at hs;simp only [E.den,ih hs]
 | m7 a i v lC Gu ihv=>simp only [E.sc,ai]at hs;simp only [E.den,lC hs.1.1,Gu hs.1.2,ihv hs.2]
 | shift a o lC UX=>simp only [E.sc,ai]at hs;simp only [E.den,lC hs.1,UX hs.2]
 | jl a o n b lC UX ihn qj=>simp only [E.sc,ai]at hs;simp only [E.den,lC hs.1.1.1,UX hs.1.1.2,ihn hs.1.2,qj hs.2]
 | kc n a ih=>simp only [E.sc]at hs;simp only [E.den,ih hs]
 | sA b=>simp only [E.sc,aqB]at hs;simp only [E.den,h.b b hs]
 | pV l=>rfl
 | QU a i lC Gu=>simp only [E.sc,ai]at hs;simp only [E.den,lC hs.1,Gu hs.2]
 | qi a i s lC Gu ihs=>simp only [E.sc,ai]at hs;simp only [E.den,lC hs.1.1,Gu hs.1.2,ihs hs.2]
 | TB s ih=>simp only [E.sc]at hs;simp only [E.den,ih hs]
theorem BE.bN(h:g_ c ρ bF){b:BE}(hs:b.sc c=true):b.den ρ=b.den bF:=by
 induction b with
 | lit n=>rfl
 | var i=>simp only [BE.sc,aqB]at hs;simp only [BE.den,h.bo i hs]
 | eq a b=>simp only [BE.sc,ai]at hs;simp only [BE.den,E.bN h hs.1,E.bN h hs.2]
 | lt a b=>simp only [BE.sc,ai]at hs;simp only [BE.den,E.bN h hs.1,E.bN h hs.2]
 | le a b=>simp only [BE.sc,ai]at hs;simp only [BE.den,E.bN h hs.1,E.bN h hs.2]
 | nz a=>simp only [BE.sc]at hs;simp only [BE.den,E.bN h hs]
 | TC n a b=>simp only [BE.sc,ai]at hs;simp only [BE.den,E.bN h hs.1,E.bN h hs.2]
 | not a ih=>simp only [BE.sc]at hs;simp only [BE.den,ih hs]
 | and a b lC qj=>simp only [BE.sc,ai]at hs;simp only [BE.den,lC hs.1,qj hs.2]
 | or a b lC qj=>simp only [BE.sc,ai]at hs;simp only [BE.den,lC hs.1,qj hs.2]
 | ite x t e YP FL FM=>simp only [BE.sc,ai]at hs;simp only [BE.den,YP hs.1.1,FL hs.1.2,FM hs.2]
 | seq a b=>simp only [BE.sc,ai]at hs;simp only [BE.den,E.bN h hs.1,E.bN h hs.2]
 | BP i=>simp only [BE.sc,aqB]at hs;simp only [BE.den,h.v i hs]
theorem BE.iE(h:g_ c ρ bF){b:BE}(hs:b.sc c=true):b.prop ρ↔b.prop bF:=by
 rw [←BE.bK,←BE.bK,BE.bN h hs]
theorem Ik(h:g_ c ρ bF)(s:Nat): ∀{cs:List Cut} (v:Value),cs.all (Cut.sc c)=true→dD ρ s v cs=dD bF s v cs
 | [],_,_=>rfl
 | k::r,v,hs=>by
  simp only [List.all_cons,ai,Cut.sc]at hs;obtain⟨⟨⟨h1,h2⟩,h3⟩,h4⟩:=hs;have hm:(k.mx.map fun m=>(m.den ρ 0).toNat)=k.mx.map fun m=>(m.den bF 0).toNat:=by
   cases hk:k.mx with
   | none=>rfl
   | some m=>
    rw [hk]at h3;simp only [Option.map_some,E.bN h h3]
  simp only [dD,E.bN h h1,E.bN h h2,hm];exact Ik h s _ h4
mutual
theorem SV.vo(h:g_ c ρ bF): ∀{v:SV},v.sc c=true→v.val ρ=v.val bF∧v.cells ρ=v.cells bF
 | .int k e,hs=>by simp only [SV.sc]at hs;simp only [SV.val,SV.cells,E.bN h hs,and_self]
 | .bool b,hs=>by simp only [SV.sc]at hs;simp only [SV.val,SV.cells,BE.bN h hs,and_self]
 | .cg,_=>⟨rfl,rfl⟩
 | .bu,_=>⟨rfl,rfl⟩
 | .jS,_=>⟨rfl,rfl⟩
 | .ov,_=>⟨rfl,rfl⟩
 | .m9,_=>⟨rfl,rfl⟩
 | .undef,_=>⟨rfl,rfl⟩
 | .ptr b n,hs=>by simp only [SV.sc,aqB]at hs;simp only [SV.val,SV.cells,h.b b hs,and_self]
 | .pX b i s n,hs=>by simp only [SV.sc,aqB,ai]at hs;simp only [SV.val,SV.cells,h.b b hs.1,E.bN h hs.2,and_self]
 | .pv v i s n,hs=>by simp only [SV.sc,aqB,ai]at hs;simp only [SV.val,SV.cells,h.v v hs.1,E.bN h hs.2,and_self]
 | .sl b i s n m,hs=>by simp only [SV.sc,aqB,ai]at hs;simp only [SV.val,SV.cells,h.b b hs.1.1.1,E.bN h hs.1.1.2,E.bN h hs.1.2,E.bN h hs.2,and_self]
 | .vv i,hs=>by simp only [SV.sc,aqB]at hs;simp only [SV.val,SV.cells,h.v i hs,and_self]
 | .str l,_=>⟨rfl,rfl⟩
 | .fn f iR,hs=>by simp only [SV.sc]at hs;simp only [SV.val,SV.cells,(SV.gi h hs).1,and_self]
 | .fm f iR,hs=>by simp only [SV.sc]at hs;simp only [SV.val,SV.cells,(SV.gi h hs).1,and_self]
 | .agg cs,hs=>by simp only [SV.sc]at hs;simp only [SV.val,SV.cells,(SV.gi h hs).2,and_self]
 | .cQ k n a,hs=>by simp only [SV.sc]at hs;simp only [SV.val,SV.cells,E.bN h hs,and_self]
 | .nO vs,hs=>by simp only [SV.sc]at hs;simp only [SV.val,SV.cells,(SV.gi h hs).1,and_self]
 | .opt b v,hs=>by simp only [SV.sc,ai]at hs;simp only [SV.val,SV.cells,BE.bN h hs.1,(SV.vo h hs.2).1,and_self]
 | .Dx a i,hs=>by simp only [SV.sc]at hs;simp only [SV.val,SV.cells,E.bN h hs,h.va,and_self]
 | .Jq l,hs=>by simp only [SV.sc,aqB]at hs;simp only [SV.val,SV.cells,h.b l hs,and_self]
 | .mp l,hs=>by simp only [SV.sc,aqB]at hs;simp only [SV.val,SV.cells,h.b l hs,and_self]
 | .ji e,hs=>by simp only [SV.sc]at hs;simp only [SV.val,SV.cells,E.bN h hs,and_self]
 | .Ia e,hs=>by simp only [SV.sc]at hs;simp only [SV.val,SV.cells,E.bN h hs,and_self]
 | .lD e,hs=>by simp only [SV.sc]at hs;simp only [SV.val,SV.cells,E.bN h hs,and_self]
 | .Mk t k e,hs=>by simp only [SV.sc]at hs;simp only [SV.val,SV.cells,E.bN h hs,and_self]
 | .QV t l k,hs=>by simp only [SV.sc,aqB]at hs;simp only [SV.val,SV.cells,h.b l hs,and_self]
 | .Ml v i s c' n,hs=>by simp only [SV.sc,ai,aqB]at hs;simp only [SV.val,SV.cells,h.v v hs.1,E.bN h hs.2,and_self]
 | .Ga b v,hs=>by simp only [SV.sc,ai,aqB]at hs;simp only [SV.val,SV.cells,BE.bN h hs.1,h.v v hs.2,and_self]
 | .jo v cs s,hs=>by simp only [SV.sc,aqB,ai]at hs;simp only [SV.val,SV.cells,h.v v hs.1,Ik h s _ hs.2,and_self]
theorem SV.gi(h:g_ c ρ bF): ∀{l:List SV},SV.pN c l=true→SV.bD ρ l=SV.bD bF l∧SV.ao ρ l=SV.ao bF l
 | [],_=>⟨rfl,rfl⟩
 | v::r,hs=>by
  simp only [SV.pN,ai]at hs;simp only [SV.bD,SV.ao,(SV.vo h hs.1).1,(SV.vo h hs.1).2,(SV.gi h hs.2).1,(SV.gi h hs.2).2,and_self]
end
theorem bL.yT(h:g_ c ρ bF){k:bL}(hs:k.sc c=true):k.cells ρ=k.cells bF:=by
 obtain⟨ck,w,a⟩:=k;simp only [bL.sc,ai]at hs;have:=E.bN h hs.1;funext i;cases ck with
 | int q=>simp only [bL.cells];rw [show a.den ρ=a.den bF from this]
 | bool=>simp only [bL.cells];rw [show a.den ρ=a.den bF from this]
 | val v=>simp only [bL.cells,h.va]
 | ptr=>simp only [bL.cells];rw [show a.den ρ=a.den bF from this]
 | bu=>rfl
 | str=>simp only [bL.cells];rw [show a.den ρ=a.den bF from this]
 | cv=>simp only [bL.cells];rw [show a.den ρ=a.den bF from this]
 | FP l=>
  simp only [bL.cells,fN];refine List.map_congr_left fun j _=>?_
  cases hj:l[i*w+j]? with
  | none=>rfl
  | some n=>
   have:=aqn.1 hs.2 n (aqG hj);simp only [aqB]at this;simp only [Option.elim,h.v n this]
 | pt q v=>
  have hq:=hs.2;simp only [CK.sc,ai,aqB]at hq;simp only [bL.cells,fN];rw [show a.den ρ=a.den bF from this,show q.den ρ=q.den bF from E.bN h hq.1,h.v v hq.2]
theorem tX(h:g_ c ρ bF){ay:List bL}(hs:ay.all (bL.sc c)=true)(n:Nat):aF ρ n ay=aF bF n ay:=by
 unfold aF;congr 1;exact List.map_congr_left fun k hk=>bL.yT h (aqn.1 hs k hk)
theorem B6{c:ct}{z:List SV}(hz:SV.pN c z=true): ∀{es:List (Nat×List SV)},(es.all fun e=>SV.pN c e.2)=true→∀i,SV.pN c (jU es z i)=true
 | [],_,_=>hz
 | (k,v)::r,h,i=>by
  simp only [List.all_cons,ai]at h;unfold jU;split
  ·exact h.1
  ·exact B6 hz h.2 i
theorem Ck.bN(h:g_ c ρ bF){ck:Ck}(hs:ck.sc c=true):ck.den ρ=ck.den bF:=by
 cases ck with
 | emp=>rfl
 | row b w cs=>simp only [Ck.sc,ai,aqB]at hs;simp only [Ck.den,h.b b hs.1,(SV.gi h hs.2).2]
 | cr md v t s n ay=>simp only [Ck.sc,ai,aqB]at hs;simp only [Ck.den,h.v v hs.1.1,E.bN h hs.1.2,tX h hs.2]
 | abs i=>simp only [Ck.sc,aqB]at hs;simp only [Ck.den,h.p i hs]
 | lG l r s j=>simp only [Ck.sc,ai,aqB]at hs;simp only [Ck.den,h.b l hs.1,h.r r hs.2]
 | JV b=>simp only [Ck.sc,aqB]at hs;simp only [Ck.den,h.b b hs]
 | tY b=>simp only [Ck.sc,aqB]at hs;simp only [Ck.den,h.b b hs]
 | map b kl ka va z has ay=>
  simp only [Ck.sc,ai,aqB]at hs;have hc:ay.map (bL.cells ρ)=ay.map (bL.cells bF):=List.map_congr_left fun k hk=>bL.yT h (aqn.1 hs.2 k hk)
  simp only [Ck.den,h.b b hs.1.1.1,(SV.gi h hs.1.1.2).2,E.bN h hs.1.2,hc]
 | LH b l p=>simp only [Ck.sc,aqB]at hs;simp only [Ck.den,h.b b hs]
 | ME b m=>simp only [Ck.sc,ai,aqB]at hs;simp only [Ck.den,h.b b hs.1,h.b m hs.2]
 | Ih b t e n a=>simp only [Ck.sc,ai,aqB]at hs;simp only [Ck.den,h.b b hs.1.1,E.bN h hs.1.2,E.bN h hs.2]
 | tM b kl ka va z es=>
  simp only [Ck.sc,ai,aqB]at hs;have hr:(fun i=>SV.ao ρ (jU es z i))=fun i=>SV.ao bF (jU es z i):=funext fun i=>(SV.gi h (B6 hs.1.2 hs.2 i)).2
  rw [Ck.lh,Ck.lh,h.b b hs.1.1,(SV.gi h hs.1.2).2,hr]
theorem kK(h:g_ c ρ bF){hp:List Ck}(hs:hp.all (Ck.sc c)=true):hp.map (Ck.den ρ)=hp.map (Ck.den bF):=
 List.map_congr_left fun k hk=>Ck.bN h (aqn.1 hs k hk)
end
structure hG (ρ:Env) (c:ct):Prop where
 b:ρ.bv.length=c.b
 v:ρ.vv.length=c.v
 i:ρ.iv.length=c.i
 a:ρ.av.length=c.a
 bo:ρ.bo.length=c.bo
 p:ρ.pv.length=c.p
 r:ρ.lr.length=c.r
structure Ext.Fits (e:Ext) (c:ct):Prop where
 b:e.b.length=c.b
 v:e.v.length=c.v
 i:e.i.length=c.i
 a:e.a.length=c.a
 bo:e.bo.length=c.bo
 p:e.p.length=c.p
 r:e.r.length=c.r
def Env.Le(ρ bF:Env):Prop:= ∃x:Ext,bF=ρ.ext x
def Ext.zero:Ext:=⟨[],[],[],[],[],[],[]⟩
theorem Env.MJ(ρ:Env):ρ.ext Ext.zero=ρ:=by simp [Env.ext,Ext.zero]
theorem Env.Le.refl(ρ:Env):Env.Le ρ ρ:=⟨Ext.zero,(Env.MJ ρ).symm⟩
theorem Env.Le.trans{a b c:Env}(h:Env.Le a b)(k:Env.Le b c):Env.Le a c:=by
 obtain⟨x,rfl⟩:=h;obtain⟨y,rfl⟩:=k;exact⟨⟨x.b++y.b,x.v++y.v,x.i++y.i,x.a++y.a,x.bo++y.bo,x.p++y.p,x.r++y.r⟩,by simp [Env.ext]⟩
theorem Env.im(ρ:Env)(e:Ext):Env.Le ρ (ρ.ext e):=⟨e,rfl⟩
theorem Env.Rf(ρ:Env)(b:Nat):ρ.m_ b=ρ.ext ⟨[b],[],[],[],[],[],[]⟩:=by simp [Env.ext,Env.m_]
theorem Env.Rg(ρ:Env)(v:V1):ρ.ig v=ρ.ext ⟨[],[v],[],[],[],[],[]⟩:=by simp [Env.ext,Env.ig]
theorem mK{α:Type}(l m:List α)(d:α)(i:Nat)(h:i<l.length):l.getD i d=(l++m).getD i d:=by
 rw [aqN,aqN,aqs h]
theorem Env.Le.eH{ρ bF:Env}{c:ct}(hl:hG ρ c)(h:Env.Le ρ bF):g_ c ρ bF:=by
 obtain⟨x,rfl⟩:=h;exact⟨fun i hi=>mK _ _ _ i (by rw [hl.b];exact hi),fun i hi=>mK _ _ _ i (by rw [hl.v];exact hi),fun i hi=>mK _ _ _ i (by rw [hl.i];exact hi),
  fun i hi=>mK _ _ _ i (by rw [hl.a];exact hi),fun i hi=>mK _ _ _ i (by rw [hl.bo];exact hi),fun i hi=>mK _ _ _ i (by rw [hl.p];exact hi),fun i hi=>mK _ _ _ i (by rw [hl.r];exact hi),rfl⟩
theorem hG.ext{ρ:Env}{c d:ct}{e:Ext}(h:hG ρ c)(k:e.Fits d):hG (ρ.ext e) (c.add d):=
 ⟨by simp [Env.ext,ct.add,h.b,k.b],by simp [Env.ext,ct.add,h.v,k.v],by simp [Env.ext,ct.add,h.i,k.i],by simp [Env.ext,ct.add,h.a,k.a],by simp [Env.ext,ct.add,h.bo,k.bo],by simp [Env.ext,ct.add,h.p,k.p],by simp [Env.ext,ct.add,h.r,k.r]⟩
theorem Env.Le.take{ρ bF:Env}{c:ct}(hl:hG ρ c)(h:Env.Le ρ bF):bF.take c=ρ:=by
 obtain⟨x,rfl⟩:=h;obtain⟨h1,h2,h3,h4,h5,h6,h7⟩:=hl;simp [Env.take,Env.ext,←h1,←h2,←h3,←h4,←h5,←h6,←h7]
theorem B7{α:Type}: ∀(n:Nat) (f:List α→Prop),Mq n f↔∃l,l.length=n∧f l
 | 0,f=>by
  simp only [Mq];constructor
  ·intro h;exact⟨[],rfl,h⟩
  ·rintro ⟨l,hl,h⟩;rw [List.length_eq_zero_iff]at hl;subst hl;exact h
 | n+1,f=>by
  simp only [Mq];constructor
  ·rintro ⟨x,h⟩;obtain⟨l,hl,h⟩:=(B7 n _).1 h;exact⟨x::l,by simp [hl],h⟩
  ·rintro ⟨l,hl,h⟩;cases l with
   | nil=>cases hl
   | cons x l=>exact⟨x,(B7 n _).2 ⟨l,by simpa using hl,h⟩⟩
theorem yU{α:Type}: ∀(n:Nat) (f:List α→Prop),yw n f↔∀l,l.length=n→f l
 | 0,f=>by
  simp only [yw];constructor
  ·intro h l hl;rw [List.length_eq_zero_iff]at hl;subst hl;exact h
  ·intro h;exact h [] rfl
 | n+1,f=>by
  simp only [yw];constructor
  ·intro h l hl;cases l with
   | nil=>cases hl
   | cons x l=>exact(yU n _).1 (h x) l (by simpa using hl)
  ·intro h x;exact(yU n _).2 fun l hl=>h (x::l) (by simp [hl])
theorem kM(c:ct)(f:Ext→Prop):wv c f↔∃e,e.Fits c∧f e:=by
 simp only [wv,B7];constructor
 ·rintro ⟨b,hb,v,hv,i,hi,a,ha,bo,UY,p,hp,r,hr,h⟩;exact⟨⟨b,v,i,a,bo,p,r⟩,⟨hb,hv,hi,ha,UY,hp,hr⟩,h⟩
 ·rintro ⟨⟨b,v,i,a,bo,p,r⟩,⟨hb,hv,hi,ha,UY,hp,hr⟩,h⟩;exact⟨b,hb,v,hv,i,hi,a,ha,bo,UY,p,hp,r,hr,h⟩
theorem ph(c:ct)(f:Ext→Prop):yx c f↔∀e,e.Fits c→f e:=by
 simp only [yx,yU];constructor
 ·rintro h ⟨b,v,i,a,bo,p,r⟩ ⟨hb,hv,hi,ha,UY,hp,hr⟩;exact h b hb v hv i hi a ha bo UY p hp r hr
 ·intro h b hb v hv i hi a ha bo UY p hp r hr;exact h ⟨b,v,i,a,bo,p,r⟩ ⟨hb,hv,hi,ha,UY,hp,hr⟩
def lU(ρ bF:Env)(l:List gx):Prop:= ∀x∈l,x.holds ρ bF
section
variable {ρ bF:Env}
theorem tZ(l:List gx)(q:Prop):TJ ρ bF l q↔lU ρ bF l∧q:=by
 induction l with
 | nil=>simp [TJ,lU]
 | cons x r ih=>
  simp only [TJ,ih,lU,List.mem_cons,forall_eq_or_imp,and_assoc]
theorem lU.app{a b:List gx}(h:lU ρ bF (a++b)):lU ρ bF a∧lU ρ bF b:=
 ⟨fun x hx=>h x (List.mem_append_left _ hx),fun x hx=>h x (List.mem_append_right _ hx)⟩
theorem r_{c:ct}(h:g_ c ρ bF){x:gx}(ht:x.trivial c=true):x.holds ρ bF:=by
 cases x<;>simp only [gx.trivial,ai,beq_iff_eq,aqB]at ht<;>simp only [gx.holds]
 case e x y=>obtain⟨rfl,hs⟩:=ht;rw [E.bN h hs]
 case a n x y=>obtain⟨⟨rfl,hs⟩,_⟩:=ht;intro j _;rw [E.bN h hs]
 case b x y=>obtain⟨rfl,hs⟩:=ht;rw [BE.bN h hs]
 case af x y=>obtain⟨rfl,hs⟩:=ht;exact E.bN h hs
 case v i j=>obtain⟨rfl,hs⟩:=ht;exact h.v _ hs
 case p i j=>obtain⟨rfl,hs⟩:=ht;exact h.p _ hs
 case bl i j=>obtain⟨rfl,hs⟩:=ht;exact h.b _ hs
 case rc i j=>obtain⟨rfl,hs⟩:=ht;exact h.r _ hs
theorem lU.all{c:ct}(h:g_ c ρ bF){l:List gx}(hl:lU ρ bF (l.filter fun q=> !q.trivial c)):lU ρ bF l:=by
 intro x hx;by_cases ht:x.trivial c=true
 ·exact r_ h ht
 ·exact hl x (aqL.2 ⟨hx,by simpa using ht⟩)
theorem lH(s:Nat): ∀{x y:List Cut} {l:List gx} (v:Value),mu x y=some l→lU ρ bF l→dD ρ s v x=dD bF s v y
 | [],[],_,_,_,_=>rfl
 | [],_::_,l,_,h,hl=>by simp [mu]at h
 | _::_,[],l,_,h,hl=>by simp [mu]at h
 | a::r,b::r',l,v,h,hl=>by
  unfold mu at h;split at h
  ·rename_i x h1 h2 h3;cases h;have e1:=hl _ (aqr);have e2:=hl _ (aqv _ (aqr));simp only [gx.holds]at e1 e2;simp only [dD,e1,e2,h1,h2,Option.map_none];exact lH s _ h3 fun q hq=>hl q (aqv _ (aqv _ hq))
  ·rename_i m m' x h1 h2 h3;cases h;have e1:=hl _ (aqr);have e2:=hl _ (aqv _ (aqr));have e3:=hl _ (aqv _ (aqv _ (aqr)));simp only [gx.holds]at e1 e2 e3;simp only [dD,e1,e2,e3,h1,h2,Option.map_some];exact lH s _ h3 fun q hq=>hl q (aqv _ (aqv _ (aqv _ hq)))
  ·cases h
mutual
theorem nV: ∀{x y:SV} {l:List gx},t_ x y=some l→lU ρ bF l→x.val ρ=y.val bF∧x.cells ρ=y.cells bF
 | x,y,l,h,hl=>by
  unfold t_ at h;split at h
  ·split at h
   ·rename_i hk;subst hk;cases h;have:=hl _ aqr;simp only [gx.holds]at this;simp only [SV.val,SV.cells,this,and_self]
   ·cases h
  ·cases h;have:=hl _ aqr;simp only [gx.holds]at this;simp only [SV.val,SV.cells,this,and_self]
  ·exact⟨rfl,rfl⟩
  ·exact⟨rfl,rfl⟩
  ·exact⟨rfl,rfl⟩
  ·exact⟨rfl,rfl⟩
  ·exact⟨rfl,rfl⟩
  ·exact⟨rfl,rfl⟩
  ·split at h
   ·rename_i hk;subst hk;cases h;have:=hl _ aqr;simp only [gx.holds]at this;simp only [SV.val,SV.cells,this,and_self]
   ·cases h
  ·split at h
   ·rename_i hk;obtain⟨rfl,rfl⟩:=hk;cases h;have h1:=hl _ (aqr);have h2:=hl _ (aqv _ (aqr));simp only [gx.holds]at h1 h2;simp only [SV.val,SV.cells,h1,h2,and_self]
   ·cases h
  ·split at h
   ·rename_i hk;obtain⟨rfl,rfl⟩:=hk;cases h;have h1:=hl _ (aqr);have h2:=hl _ (aqv _ (aqr));simp only [gx.holds]at h1 h2;simp only [SV.val,SV.cells,h1,h2,and_self]
   ·cases h
  ·split at h
   ·rename_i hk;subst hk;cases h;have h1:=hl _ (aqr);have h2:=hl _ (aqv _ (aqr));have h3:=hl _ (aqv _ (aqv _ (aqr)));have h4:=hl _ (aqv _ (aqv _ (aqv _ (aqr))));simp only [gx.holds]at h1 h2 h3 h4;simp only [SV.val,SV.cells,h1,h2,h3,h4,and_self]
   ·cases h
  ·cases h;have:=hl _ aqr;simp only [gx.holds]at this;simp only [SV.val,SV.cells,this,and_self]
  ·split at h
   ·rename_i hk;subst hk;exact⟨rfl,rfl⟩
   ·cases h
  ·cases h;have:=hl _ aqr;simp only [gx.holds]at this;simp only [SV.val,SV.cells,this,and_self]
  ·cases h;have h1:=hl _ aqr;have h2:=hl _ (aqv _ aqr);simp only [gx.holds]at h1 h2;simp only [SV.val,SV.cells,h1,h2,and_self]
  ·split at h
   ·rename_i hk;obtain⟨rfl,rfl⟩:=hk;cases h;have:=hl _ aqr;simp only [gx.holds]at this;simp only [SV.val,SV.cells,this,and_self]
   ·cases h
  ·cases h;have:=hl _ aqr;simp only [gx.holds,mD]at this;simp only [SV.val,SV.cells,this,ou,and_self]
  ·split at h
   ·rename_i hk;subst hk;have:=dr h hl;simp only [SV.val,SV.cells,this.1,and_self]
   ·cases h
  ·split at h
   ·rename_i hk;subst hk;have:=dr h hl;simp only [SV.val,SV.cells,this.1,and_self]
   ·cases h
  ·have:=dr h hl;simp only [SV.val,SV.cells,this.2,and_self]
  ·split at h
   ·rename_i hk;obtain⟨rfl,rfl⟩:=hk;cases h;rename_i k n a b;have:=hl _ aqr;simp only [gx.holds,E.den,aqD]at this;have e:aj k n (a.den ρ)=aj k n (b.den bF):=cn k n this;simp only [SV.val,SV.cells,e,and_self]
   ·cases h
  ·have:=dr h hl;simp only [SV.val,SV.cells,this.1,and_self]
  ·rw [aqq]at h;obtain⟨z,hz,rfl⟩:=h;have h1:=hl _ aqr;have h2:=nV hz fun x hx=>hl x (aqv _ hx)
   simp only [gx.holds]at h1;simp only [SV.val,SV.cells,h1,h2.1,and_self]
  ·cases h;have:=hl _ aqr;simp only [gx.holds]at this;simp only [SV.val,SV.cells,this,and_self]
  ·cases h;have:=hl _ aqr;simp only [gx.holds]at this;simp only [SV.val,SV.cells,this,and_self]
  ·cases h;have:=hl _ aqr;simp only [gx.holds]at this;simp only [SV.val,SV.cells,this,and_self]
  ·split at h
   ·rename_i hk;subst hk;cases h;have:=hl _ aqr;simp only [gx.holds,E.den]at this;simp only [SV.val,SV.cells,this,eF,and_self]
   ·cases h
  ·cases h;have:=hl _ aqr;simp only [gx.holds,E.den]at this;simp only [SV.val,SV.cells,this,cA,if_true,and_self]
  ·split at h
   ·rename_i hk;subst hk;cases h;have:=hl _ aqr;simp only [gx.holds,E.den]at this;simp only [SV.val,SV.cells,←this,eF,and_self]
   ·cases h
  ·cases h;have:=hl _ aqr;simp only [gx.holds]at this;simp only [SV.val,SV.cells,this,and_self]
  ·cases h;have:=hl _ aqr;simp only [gx.holds,E.den]at this;simp only [SV.val,SV.cells,this,cX,if_true,and_self]
  ·split at h
   ·rename_i hk;subst hk;rw [aqq]at h;obtain⟨z,hz,rfl⟩:=h;have h1:=hl _ (aqr);simp only [gx.holds]at h1;simp only [SV.val,SV.cells,h1,lH _ _ hz fun q hq=>hl q (aqv _ hq),and_self]
   ·cases h
  ·cases h
theorem dr: ∀{x y:List SV} {l:List gx},gq x y=some l→lU ρ bF l→SV.bD ρ x=SV.bD bF y∧SV.ao ρ x=SV.ao bF y
 | [],[],l,h,hl=>⟨rfl,rfl⟩
 | [],_::_,l,h,hl=>by simp [gq]at h
 | _::_,[],l,h,hl=>by simp [gq]at h
 | a::r,b::r',l,h,hl=>by
  unfold gq at h;split at h
  ·rename_i p q hp hq;cases h;obtain⟨h1,h2⟩:=hl.app;have e1:=nV hp h1;have e2:=dr hq h2;simp only [SV.bD,SV.ao,e1.1,e1.2,e2.1,e2.2,and_self]
  ·cases h
end
theorem nW: ∀{pat act:List (Nat×SV)} {l:List gx},ny pat act=some l→lU ρ bF l→
  ∀s v,look pat s=some v→∃v',look act s=some v'∧v.val ρ=v'.val bF
 | [],act,l,h,hl,s,v,hs=>by simp [look]at hs
 | (t,x)::r,act,l,h,hl,s,v,hs=>by
  unfold ny at h;split at h
  ·rename_i v' y rM hy;rw [aqq]at h;obtain⟨z,hz,rfl⟩:=h;obtain⟨h1,h2⟩:=hl.app;unfold look at hs;split at hs
   ·rename_i tn;rw [beq_iff_eq]at tn;subst tn;cases hs;exact⟨v',rM,(nV hz h1).1⟩
   ·exact nW hy h2 s v hs
  ·cases h
theorem jw(Be:ρ.va=bF.va)(N:Nat){n:E}(hn:(n.den ρ 0).toNat=N): ∀{pat act:List bL} {l:List gx},jJ n pat act=some l→lU ρ bF l→
  ∀i,i<N→((pat.map (bL.cells ρ)).flatMap fun c=>c i)=(act.map (bL.cells bF)).flatMap fun c=>c i
 | [],[],l,h,hl,i,hi=>rfl
 | [],_::_,l,h,hl,i,hi=>by simp [jJ]at h
 | _::_,[],l,h,hl,i,hi=>by simp [jJ]at h
 | a::r,b::r',l,h,hl,i,hi=>by
  unfold jJ at h;split at h
  ·rename_i ls ls' ha hb;split at h
   case isFalse=>cases h
   rename_i hk;rw [aqq]at h;obtain⟨z,hz,rfl⟩:=h;have ih:=jw Be N hn hz (fun x hx=>hl x (List.mem_append_right _ hx)) i hi;simp only [aqP,List.flatMap_cons,ih];congr 1;obtain⟨ck,cw,ca⟩:=a;obtain⟨Qq,cw',LI⟩:=b;obtain⟨e1,e2⟩:=hk;simp only at ha hb e2;subst ha hb e2;simp only [bL.cells,fN];refine List.map_congr_left fun j _=>?_
   generalize i*cw+j=m;by_cases hm:m<ls.length
   ·rw [List.getElem?_eq_getElem hm,List.getElem?_eq_getElem (show m<ls'.length by omega)];have:=hl (.v ls[m] ls'[m]) (List.mem_append_left _ (aqV.2 ⟨(ls[m],ls'[m]),by
     rw [List.mem_iff_getElem?];exact⟨m,by rw [List.getElem?_zip_eq_some];exact⟨List.getElem?_eq_getElem hm,List.getElem?_eq_getElem (by omega)⟩⟩,rfl⟩))
    simp only [gx.holds]at this;simp only [Option.elim,this]
   ·rw [aq3 (by omega),aq3 (by omega)];rfl
  ·cases h
  rename_i hpt UZ;split at h
  ·rename_i hk;rw [aqq]at h;obtain⟨z,hz,rfl⟩:=h;have ih:=jw Be N hn hz (fun x hx=>hl x (aqv _ hx)) i hi;have h1:=hl _ aqr;simp only [aqP,List.flatMap_cons,ih];congr 1;obtain⟨ck,cw,ca⟩:=a;obtain⟨Qq,cw',LI⟩:=b;obtain⟨e1,e2⟩:=hk;simp only at e1 e2 h1;subst e1 e2;by_cases U0:ck= .str
   ·subst U0;simp only [if_true,gx.holds]at h1;simp only [bL.cells];rw [show ca.den ρ=LI.den bF from h1]
   rw [if_neg U0]at h1;simp only [gx.holds,gW,E.den]at h1;have hb: ∀j,j<cw→ca.den ρ (i*cw+j)=LI.den bF (i*cw+j):=by
    intro j hj;refine h1 _ ?_;rw [toNat_mul,hn];have:i*cw+cw≤N*cw:=by
     have:=Nat.mul_le_mul_right cw (show i+1≤N by omega)
     rwa [Nat.add_mul,Nat.one_mul]at this
    omega
   cases ck with
   | int k=>exact cn k cw hb
   | bool=>
    unfold bL.cells ij;exact List.map_congr_left fun j hj=>by rw [hb j (aqE.1 hj)]
   | val v=>simp only [bL.cells,Be]
   | ptr=>
    unfold bL.cells tH;exact List.map_congr_left fun j hj=>by rw [hb j (aqE.1 hj)]
   | bu=>rfl
   | str=>exact absurd rfl U0
   | cv=>
    simp only [bL.cells,fN];exact List.map_congr_left fun j hj=>by rw [hb j (aqE.1 hj)]
   | FP l=>exact absurd rfl (UZ l l rfl)
   | pt q v=>exact absurd rfl (hpt q v)
  ·split at h
   ·rename_i hk;rw [aqq]at h;obtain⟨z,hz,rfl⟩:=h;have ih:=jw Be N hn hz (fun x hx=>hl x (aqv _ hx)) i hi;have h1:=hl _ aqr;simp only [aqP,List.flatMap_cons,ih];congr 1;obtain⟨ck,cw,ca⟩:=a;obtain⟨Qq,cw',LI⟩:=b;obtain⟨e0,e1,e2⟩:=hk;simp only at e0 e1 e2 h1;subst e0 e1 e2;simp only [gx.holds,gW,E.den]at h1;simp only [bL.cells,fN];refine List.map_congr_left fun j hj=>?_
    rw [h1 _ ?_,Mm];have lO:=aqE.1 hj;rw [toNat_mul,hn];have:i*cw+cw≤N*cw:=by
     have:=Nat.mul_le_mul_right cw (show i+1≤N by omega)
     rwa [Nat.add_mul,Nat.one_mul]at this
    omega
   ·cases h
theorem kN(Be:ρ.va=bF.va): ∀{pat act:List bL} {l:List gx},jC pat act=some l→lU ρ bF l→pat.map (bL.cells ρ)=act.map (bL.cells bF)
 | [],[],l,h,hl=>rfl
 | [],_::_,l,h,hl=>by simp [jC]at h
 | _::_,[],l,h,hl=>by simp [jC]at h
 | a::r,b::r',l,h,hl=>by
  unfold jC at h;split at h
  ·cases h
  ·rename_i q v q' u DX JW;split at h
   ·rename_i hw;rw [aqq]at h;obtain⟨z,hz,rfl⟩:=h;have ih:=kN Be hz (fun x hx=>hl x (aqv _ (aqv _ (aqv _ hx))));have h1:=hl _ aqr;have h2:=hl _ (aqv _ aqr);have h3:=hl _ (aqv _ (aqv _ aqr));simp only [gx.holds]at h1 h2 h3;rw [aqP,aqP,ih];congr 1;obtain⟨ck,cw,ca⟩:=a;obtain⟨Qq,cw',LI⟩:=b;simp only at DX JW hw h3;subst DX JW hw;funext i;simp only [bL.cells];rw [show ca.den ρ=LI.den bF from h3,h1,h2]
   ·cases h
  ·cases h
  rename_i UZ Zf hpt;split at h
  ·rename_i hk;rw [aqq]at h;obtain⟨z,hz,rfl⟩:=h;have ih:=kN Be hz (fun x hx=>hl x (aqv _ hx));have h1:=hl _ aqr;simp only [gx.holds]at h1;rw [aqP,aqP,ih];congr 1;obtain⟨ck,cw,ca⟩:=a;obtain⟨Qq,cw',LI⟩:=b;obtain⟨e1,e2⟩:=hk;simp only at e1 e2 h1;subst e1 e2;funext i;cases ck with
   | int k=>simp only [bL.cells];rw [show ca.den ρ=LI.den bF from h1]
   | bool=>simp only [bL.cells];rw [show ca.den ρ=LI.den bF from h1]
   | val v=>simp only [bL.cells,Be]
   | ptr=>simp only [bL.cells];rw [show ca.den ρ=LI.den bF from h1]
   | bu=>rfl
   | str=>simp only [bL.cells];rw [show ca.den ρ=LI.den bF from h1]
   | cv=>simp only [bL.cells];rw [show ca.den ρ=LI.den bF from h1]
   | FP l=>exact(UZ l rfl).elim
   | pt q v=>first | exact(hpt q v rfl).elim | exact(Zf q v rfl).elim | exact(hpt q v q v rfl rfl).elim | exact(Zf q v q v rfl rfl).elim
  ·cases h
theorem j_: ∀(f:Nat) (p act:List SV),SV.ao ρ (sO f p act)=SV.ao ρ act
 | 0,_,_=>rfl
 | f+1,p,act=>by
  unfold sO;split
  ·rfl
  ·rename_i k e p f' k' m a r h;cases h;simp only [SV.ao,SV.cells];rw [j_ f];split
   ·rename_i hm;subst hm;simp [aj,cJ,E.den]
   ·simp only [SV.ao,SV.cells];have:aj k' (m+1) (a.den ρ)=[.int k' (a.den ρ 0)]++aj k' m ((kF a (.lit 1)).den ρ):=by
     unfold aj;rw [List.range_succ_eq_map,aqP,List.map_map];simp only [List.singleton_append,List.cons.injEq,true_and];apply List.map_congr_left;intro j _;simp [Function.comp,eB,E.den,Nat.add_comm]
    rw [this,cJ];simp [E.den]
  ·rename_i k n e p f' x r h;cases h;split
   ·simp only [SV.ao,j_ f]
   ·split
    ·rename_i c d hc hd;split
     ·rename_i kl e' rL;split
      ·rename_i JF;have h1:=(eK (ρ:=ρ) hc).1;have h2:=eR (ρ:=ρ) _ _ _ hd;have h3:=gJ (ρ:=ρ) rL;rw [JF,List.length_replicate,o4]at h3;rw [h3,List.drop_zero]at h1;rw [SV.ao,SV.cells,j_ f,h1,h2,List.take_append_drop]
      ·rfl
     ·rfl
    ·rfl
  ·rename_i h;cases h;simp only [SV.ao,j_ f]
  ·rfl
theorem sd{z z':List SV}(hz:SV.ao ρ z=SV.ao bF z'): ∀{es AG:List (Nat×List SV)} {l:List gx},rq es AG=some l→lU ρ bF l→
  ((fun i=>qw es i)=fun i=>qw AG i)∧(fun i=>SV.ao ρ (jU es z i))=fun i=>SV.ao bF (jU AG z' i)
 | [],[],_,_,_=>⟨rfl,funext fun _=>hz⟩
 | [],_::_,_,h,_=>by simp [rq]at h
 | _::_,[],_,h,_=>by simp [rq]at h
 | (i,v)::r,(j,u)::r',l,h,hl=>by
  simp only [rq]at h;split at h
  ·rename_i m8;subst m8;split at h
   ·rename_i x y hx hy;cases h;obtain⟨h4,h5⟩:=hl.app;obtain⟨e1,e2⟩:=sd hz hy h5;have e3:=(dr hx h4).2;refine⟨funext fun k=>?_,funext fun k=>?_⟩
    ·simp only [qw];rw [show qw r k=qw r' k from congrFun e1 k]
    ·simp only [jU];split
     ·exact e3
     ·exact congrFun e2 k
   ·cases h
  ·cases h
theorem se(Be:ρ.va=bF.va){x y:Ck}{l:List gx}(h:xT x y=some l)(hl:lU ρ bF l):x.den ρ=y.den bF:=by
 unfold xT at h;split at h
 ·rfl
 ·split at h
  ·rename_i hk;subst hk;rw [aqq]at h;obtain⟨z,hz,rfl⟩:=h;have h1:=hl _ aqr;simp only [gx.holds]at h1;simp only [Ck.den,h1,(dr hz fun x hx=>hl x (aqv _ hx)).2,j_]
  ·cases h
 ·split at h
  ·rename_i hk;obtain⟨rfl,rfl,rfl⟩:=hk;rw [aqq]at h;obtain⟨z,hz,rfl⟩:=h;have h1:=hl _ aqr;have h2:=hl _ (aqv _ aqr);simp only [gx.holds]at h1 h2;have h3:=jw Be _ rfl hz fun x hx=>hl x (aqv _ (aqv _ hx))
   simp only [Ck.den,h1,h2];congr 1;unfold aF aK;rw [List.flatMap_def,List.flatMap_def];congr 1;refine List.map_congr_left fun i hi=>h3 i ?_
   rw [h2];exact aqE.1 hi
  ·cases h
 ·cases h;have:=hl _ aqr;exact this
 ·split at h
  ·rename_i hk;obtain⟨rfl,rfl⟩:=hk;cases h;have h1:=hl _ aqr;have h2:=hl _ (aqv _ aqr);simp only [gx.holds]at h1 h2;simp only [Ck.den,h1,h2]
  ·cases h
 ·cases h;have:=hl _ aqr;simp only [gx.holds]at this;simp only [Ck.den,this]
 ·cases h;have:=hl _ aqr;simp only [gx.holds]at this;simp only [Ck.den,this]
 ·split at h
  ·rename_i hk;obtain⟨rfl,rfl,rfl⟩:=hk;split at h
   ·rename_i x y hx hy;cases h;have h1:=hl _ aqr;have h2:=hl _ (aqv _ aqr);simp only [gx.holds]at h1 h2;have h3:lU ρ bF (x++y):=fun q hq=>hl q (aqv _ (aqv _ hq))
    obtain⟨h4,h5⟩:=h3.app;simp only [Ck.den,h1,h2,(dr hx h4).2,kN Be hy h5]
   ·cases h
  ·cases h
 ·split at h
  ·rename_i hk;obtain⟨rfl,rfl,rfl⟩:=hk;split at h
   ·rename_i x y hx hy;cases h;have h1:=hl _ aqr;simp only [gx.holds]at h1;have h3:lU ρ bF (x++y):=fun q hq=>hl q (aqv _ hq)
    obtain⟨h4,h5⟩:=h3.app;obtain⟨e1,e2⟩:=sd (dr hx h4).2 hy h5;rw [Ck.lh,Ck.lh,h1,(dr hx h4).2,e1,e2]
   ·cases h
  ·cases h
 ·split at h
  ·rename_i hk;obtain⟨rfl,rfl⟩:=hk;cases h;have h1:=hl _ aqr;have h2:=hl _ (aqv _ aqr);have h3:=hl _ (aqv _ (aqv _ aqr));simp only [gx.holds]at h1 h2 h3;simp only [Ck.den,h1];congr 1;rw [←h2];exact cn _ _ h3
  ·cases h
 ·split at h
  ·rename_i hk;obtain⟨rfl,rfl⟩:=hk;cases h;have h1:=hl _ aqr;simp only [gx.holds]at h1;simp only [Ck.den,h1]
  ·cases h
 ·cases h;have h1:=hl _ aqr;have h2:=hl _ (aqv _ aqr);simp only [gx.holds]at h1 h2;simp only [Ck.den,h1,h2]
 ·cases h
theorem sf(Be:ρ.va=bF.va): ∀{pat act:List Ck} {l:List gx},nA pat act=some l→lU ρ bF l→
  ∃more,act.map (Ck.den bF)=pat.map (Ck.den ρ)++more
 | [],act,l,h,hl=>⟨_,rfl⟩
 | a::r,[],l,h,hl=>by simp [nA]at h
 | a::r,b::r',l,h,hl=>by
  unfold nA at h;split at h
  ·rename_i p q hp hq;cases h;obtain⟨h1,h2⟩:=hl.app;obtain⟨m,hm⟩:=sf Be hq h2;exact⟨m,by simp only [aqP,List.cons_append,hm,se Be hp h1]⟩
  ·cases h
end
end Go.RX
