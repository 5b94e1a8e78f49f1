/- Executor. -/
import Derived.Test.YtllcdnkfbeokhaaGreatRxP
open Bool renaming and_eq_true -> ai
open Int renaming toNat_natCast -> ax3
open List renaming all_eq_true -> axS, flatMap_cons -> ayn, getD_eq_getElem?_getD -> ayk, getElem?_append_left -> axX, getElem?_eq_getElem -> ays, map_cons -> ayr, mem_cons_of_mem -> axZ, mem_cons_self -> axW, mem_filter -> ayi, mem_map -> ayg, mem_of_getElem? -> ayh, mem_range -> ayc
open Nat renaming blt_eq -> ayb
open Option renaming map_eq_some_iff -> axV
namespace Go.RX
structure iY (c:cI) (ρ bG:Env):Prop where
 b: ∀i,i<c.b->ρ.bv.getD i 0=bG.bv.getD i 0
 v: ∀i,i<c.v->ρ.vv.getD i V1.nil=bG.vv.getD i V1.nil
 i: ∀i,i<c.i->ρ.iv.getD i 0=bG.iv.getD i 0
 a: ∀i,i<c.a->ρ.av.getD i (λ_=>0)=bG.av.getD i (λ_=>0)
 bo: ∀i,i<c.bo->ρ.bo.getD i false=bG.bo.getD i false
 p: ∀i,i<c.p->ρ.pv.getD i HP.emp=bG.pv.getD i HP.emp
 r: ∀i,i<c.r->ρ.lr.getD i j6=bG.lr.getD i j6
 va:ρ.va=bG.va
section
variable {c:cI} {ρ bG:Env}
theorem iY.symm(h:iY c ρ bG):iY c bG ρ:=
 ⟨λi hi=>(h.b i hi).symm,λi hi=>(h.v i hi).symm,λi hi=>(h.i i hi).symm,λi hi=>(h.a i hi).symm,λi hi=>(h.bo i hi).symm,λi hi=>(h.p i hi).symm,λi hi=>(h.r i hi).symm,h.va.symm⟩
theorem E.bZ(h:iY c ρ bG){e:E}(hs:e.sc c=true):e.den ρ=e.den bG:=by
 induction e with
 | lit n=>rfl
 | var i=>simp only[E.sc,ayb]at hs;simp only[E.den,h.i i hs]
 | cM i=>simp only[E.sc,ayb]at hs;simp only[E.den,h.a i hs]
 | Vh a i mU JJ=>simp only[E.sc,ai]at hs;simp only[E.den,mU hs.1,JJ hs.2]
 | bin o k a b mU rR=>simp only[E.sc,ai]at hs;simp only[E.den,mU hs.1,rR hs.2]
 | wrap k a ih=>simp only[E.sc]at hs;simp only[E.den,ih hs]
 | oL a i v mU JJ ihv=>simp only[E.sc,ai]at hs;simp only[E.den,mU hs.1.1,JJ hs.1.2,ihv hs.2]
 | shift a o mU iho=>simp only[E.sc,ai]at hs;simp only[E.den,mU hs.1,iho hs.2]
 | jA a o n b mU iho ihn rR=>simp only[E.sc,ai]at hs;simp only[E.den,mU hs.1.1.1,iho hs.1.1.2,ihn hs.1.2,rR hs.2]
 | kc n a ih=>simp only[E.sc]at hs;simp only[E.den,ih hs]
 | uv b=>simp only[E.sc,ayb]at hs;simp only[E.den,h.b b hs]
 | tH l=>rfl
 | VI a i mU JJ=>simp only[E.sc,ai]at hs;simp only[E.den,mU hs.1,JJ hs.2]
 | rQ a i s mU JJ ihs=>simp only[E.sc,ai]at hs;simp only[E.den,mU hs.1.1,JJ hs.1.2,ihs hs.2]
 | YC s ih=>simp only[E.sc]at hs;simp only[E.den,ih hs]
theorem BE.bZ(h:iY c ρ bG){b:BE}(hs:b.sc c=true):b.den ρ=b.den bG:=by
 induction b with
 | lit n=>rfl
 | var i=>simp only[BE.sc,ayb]at hs;simp only[BE.den,h.bo i hs]
 | eq a b=>simp only[BE.sc,ai]at hs;simp only[BE.den,E.bZ h hs.1,E.bZ h hs.2]
 | lt a b=>simp only[BE.sc,ai]at hs;simp only[BE.den,E.bZ h hs.1,E.bZ h hs.2]
 | le a b=>simp only[BE.sc,ai]at hs;simp only[BE.den,E.bZ h hs.1,E.bZ h hs.2]
 | nz a=>simp only[BE.sc]at hs;simp only[BE.den,E.bZ h hs]
 | YD n a b=>simp only[BE.sc,ai]at hs;simp only[BE.den,E.bZ h hs.1,E.bZ h hs.2]
 | not a ih=>simp only[BE.sc]at hs;simp only[BE.den,ih hs]
 | and a b mU rR=>simp only[BE.sc,ai]at hs;simp only[BE.den,mU hs.1,rR hs.2]
 | or a b mU rR=>simp only[BE.sc,ai]at hs;simp only[BE.den,mU hs.1,rR hs.2]
 | ite x t e ihx I6 I7=>simp only[BE.sc,ai]at hs;simp only[BE.den,ihx hs.1.1,I6 hs.1.2,I7 hs.2]
 | seq a b=>simp only[BE.sc,ai]at hs;simp only[BE.den,E.bZ h hs.1,E.bZ h hs.2]
 | Eg i=>simp only[BE.sc,ayb]at hs;simp only[BE.den,h.v i hs]
theorem BE.jV(h:iY c ρ bG){b:BE}(hs:b.sc c=true):b.prop ρ↔b.prop bG:=by
 rw[<-BE.bY,<-BE.bY,BE.bZ h hs]
theorem Ly(h:iY c ρ bG)(s:Nat): ∀{cs:List Cut} (v:Value),cs.all (Cut.sc c)=true->dX ρ s v cs=dX bG s v cs
 | [],_,_=>rfl
 | k::r,v,hs=>by
  simp only[List.all_cons,ai,Cut.sc]at hs;obtain⟨⟨⟨h1,h2⟩,h3⟩,h4⟩:=hs;have hm:(k.mx.map λm=>(m.den ρ 0).toNat)=k.mx.map λm=>(m.den bG 0).toNat:=by
   cases hk:k.mx with
   | none=>rfl
   | some m=>
    rw[hk]at h3;simp only[Option.map_some,E.bZ h h3]
  simp only[dX,E.bZ h h1,E.bZ h h2,hm];exact Ly h s _ h4
mutual
theorem SV.xN(h:iY c ρ bG): ∀{v:SV},v.sc c=true->v.val ρ=v.val bG/\v.cells ρ=v.cells bG
 | .int k e,hs=>by simp only[SV.sc]at hs;simp only[SV.val,SV.cells,E.bZ h hs,and_self]
 | .bool b,hs=>by simp only[SV.sc]at hs;simp only[SV.val,SV.cells,BE.bZ h hs,and_self]
 | .iy,_=>⟨rfl,rfl⟩
 | .bW,_=>⟨rfl,rfl⟩
 | .qK,_=>⟨rfl,rfl⟩
 | .pT,_=>⟨rfl,rfl⟩
 | .oM,_=>⟨rfl,rfl⟩
 | .undef,_=>⟨rfl,rfl⟩
 | .ptr b n,hs=>by simp only[SV.sc,ayb]at hs;simp only[SV.val,SV.cells,h.b b hs,and_self]
 | .rL b i s n,hs=>by simp only[SV.sc,ayb,ai]at hs;simp only[SV.val,SV.cells,h.b b hs.1,E.bZ h hs.2,and_self]
 | .pv v i s n,hs=>by simp only[SV.sc,ayb,ai]at hs;simp only[SV.val,SV.cells,h.v v hs.1,E.bZ h hs.2,and_self]
 | .sl b i s n m,hs=>by simp only[SV.sc,ayb,ai]at hs;simp only[SV.val,SV.cells,h.b b hs.1.1.1,E.bZ h hs.1.1.2,E.bZ h hs.1.2,E.bZ h hs.2,and_self]
 | .vv i,hs=>by simp only[SV.sc,ayb]at hs;simp only[SV.val,SV.cells,h.v i hs,and_self]
 | .str l,_=>⟨rfl,rfl⟩
 | .fn f jL,hs=>by simp only[SV.sc]at hs;simp only[SV.val,SV.cells,(SV.ic h hs).1,and_self]
 | .fm f jL,hs=>by simp only[SV.sc]at hs;simp only[SV.val,SV.cells,(SV.ic h hs).1,and_self]
 | .agg cs,hs=>by simp only[SV.sc]at hs;simp only[SV.val,SV.cells,(SV.ic h hs).2,and_self]
 | .jD k n a,hs=>by simp only[SV.sc]at hs;simp only[SV.val,SV.cells,E.bZ h hs,and_self]
 | .oH vs,hs=>by simp only[SV.sc]at hs;simp only[SV.val,SV.cells,(SV.ic h hs).1,and_self]
 | .opt b v,hs=>by simp only[SV.sc,ai]at hs;simp only[SV.val,SV.cells,BE.bZ h hs.1,(SV.xN h hs.2).1,and_self]
 | .Gb a i,hs=>by simp only[SV.sc]at hs;simp only[SV.val,SV.cells,E.bZ h hs,h.va,and_self]
 | .Nk l,hs=>by simp only[SV.sc,ayb]at hs;simp only[SV.val,SV.cells,h.b l hs,and_self]
 | .mp l,hs=>by simp only[SV.sc,ayb]at hs;simp only[SV.val,SV.cells,h.b l hs,and_self]
 | .j9 e,hs=>by simp only[SV.sc]at hs;simp only[SV.val,SV.cells,E.bZ h hs,and_self]
 | .Jq e,hs=>by simp only[SV.sc]at hs;simp only[SV.val,SV.cells,E.bZ h hs,and_self]
 | .nX e,hs=>by simp only[SV.sc]at hs;simp only[SV.val,SV.cells,E.bZ h hs,and_self]
 | .Qs t k e,hs=>by simp only[SV.sc]at hs;simp only[SV.val,SV.cells,E.bZ h hs,and_self]
 | .VJ t l k,hs=>by simp only[SV.sc,ayb]at hs;simp only[SV.val,SV.cells,h.b l hs,and_self]
 | .Qt v i s c' n,hs=>by simp only[SV.sc,ai,ayb]at hs;simp only[SV.val,SV.cells,h.v v hs.1,E.bZ h hs.2,and_self]
 | .Jp b v,hs=>by simp only[SV.sc,ai,ayb]at hs;simp only[SV.val,SV.cells,BE.bZ h hs.1,h.v v hs.2,and_self]
 | .kj v cs s,hs=>by simp only[SV.sc,ayb,ai]at hs;simp only[SV.val,SV.cells,h.v v hs.1,Ly h s _ hs.2,and_self]
theorem SV.ic(h:iY c ρ bG): ∀{l:List SV},SV.rF c l=true->SV.bF ρ l=SV.bF bG l/\SV.aq ρ l=SV.aq bG l
 | [],_=>⟨rfl,rfl⟩
 | v::r,hs=>by
  simp only[SV.rF,ai]at hs;simp only[SV.bF,SV.aq,(SV.xN h hs.1).1,(SV.xN h hs.1).2,(SV.ic h hs.2).1,(SV.ic h hs.2).2,and_self]
end
theorem bU.Bf(h:iY c ρ bG){k:bU}(hs:k.sc c=true):k.cells ρ=k.cells bG:=by
 obtain⟨ck,w,a⟩:=k;simp only[bU.sc,ai]at hs;have:=E.bZ h hs.1;funext i;cases ck with
 | int q=>simp only[bU.cells];rw[show a.den ρ=a.den bG from this]
 | bool=>simp only[bU.cells];rw[show a.den ρ=a.den bG from this]
 | val v=>simp only[bU.cells,h.va]
 | ptr=>simp only[bU.cells];rw[show a.den ρ=a.den bG from this]
 | bW=>rfl
 | str=>simp only[bU.cells];rw[show a.den ρ=a.den bG from this]
 | cv=>simp only[bU.cells];rw[show a.den ρ=a.den bG from this]
 | Lr l=>
  simp only[bU.cells,cV];refine List.map_congr_left λj _=>?_
  cases hj:l[i*w+j]? with
  | none=>rfl
  | some n=>
   have:=axS.1 hs.2 n (ayh hj);simp only[ayb]at this;simp only[Option.elim,h.v n this]
 | pt q v=>
  have hq:=hs.2;simp only[CK.sc,ai,ayb]at hq;simp only[bU.cells,cV];rw[show a.den ρ=a.den bG from this,show q.den ρ=q.den bG from E.bZ h hq.1,h.v v hq.2]
theorem vS(h:iY c ρ bG){aB:List bU}(hs:aB.all (bU.sc c)=true)(n:Nat):aL ρ n aB=aL bG n aB:=by
 unfold aL;congr 1;exact List.map_congr_left λk hk=>bU.Bf h (axS.1 hs k hk)
theorem EC{c:cI}{z:List SV}(hz:SV.rF c z=true): ∀{es:List (Nat×List SV)},(es.all λe=>SV.rF c e.2)=true->∀i,SV.rF c (oP es z i)=true
 | [],_,_=>hz
 | (k,v)::r,h,i=>by
  simp only[List.all_cons,ai]at h;unfold oP;split
  .exact h.1
  .exact EC hz h.2 i
theorem Ck.bZ(h:iY c ρ bG){ck:Ck}(hs:ck.sc c=true):ck.den ρ=ck.den bG:=by
 cases ck with
 | emp=>rfl
 | row b w cs=>simp only[Ck.sc,ai,ayb]at hs;simp only[Ck.den,h.b b hs.1,(SV.ic h hs.2).2]
 | cF md v t s n aB=>simp only[Ck.sc,ai,ayb]at hs;simp only[Ck.den,h.v v hs.1.1,E.bZ h hs.1.2,vS h hs.2]
 | abs i=>simp only[Ck.sc,ayb]at hs;simp only[Ck.den,h.p i hs]
 | mY l r s j=>simp only[Ck.sc,ai,ayb]at hs;simp only[Ck.den,h.b l hs.1,h.r r hs.2]
 | NP b=>simp only[Ck.sc,ayb]at hs;simp only[Ck.den,h.b b hs]
 | vT b=>simp only[Ck.sc,ayb]at hs;simp only[Ck.den,h.b b hs]
 | map b kl ka va z has aB=>
  simp only[Ck.sc,ai,ayb]at hs;have hc:aB.map (bU.cells ρ)=aB.map (bU.cells bG):=List.map_congr_left λk hk=>bU.Bf h (axS.1 hs.2 k hk)
  simp only[Ck.den,h.b b hs.1.1.1,(SV.ic h hs.1.1.2).2,E.bZ h hs.1.2,hc]
 | PY b l p=>simp only[Ck.sc,ayb]at hs;simp only[Ck.den,h.b b hs]
 | QN b m=>simp only[Ck.sc,ai,ayb]at hs;simp only[Ck.den,h.b b hs.1,h.b m hs.2]
 | Lq b t e n a=>simp only[Ck.sc,ai,ayb]at hs;simp only[Ck.den,h.b b hs.1.1,E.bZ h hs.1.2,E.bZ h hs.2]
 | vK b kl ka va z es=>
  simp only[Ck.sc,ai,ayb]at hs;have hr:(λi=>SV.aq ρ (oP es z i))=λi=>SV.aq bG (oP es z i):=funext λi=>(SV.ic h (EC hs.1.2 hs.2 i)).2
  rw[Ck.mJ,Ck.mJ,h.b b hs.1.1,(SV.ic h hs.1.2).2,hr]
theorem mZ(h:iY c ρ bG){hp:List Ck}(hs:hp.all (Ck.sc c)=true):hp.map (Ck.den ρ)=hp.map (Ck.den bG):=
 List.map_congr_left λk hk=>Ck.bZ h (axS.1 hs k hk)
end
structure iZ (ρ:Env) (c:cI):Prop where
 b:ρ.bv.length=c.b
 v:ρ.vv.length=c.v
 i:ρ.iv.length=c.i
 a:ρ.av.length=c.a
 bo:ρ.bo.length=c.bo
 p:ρ.pv.length=c.p
 r:ρ.lr.length=c.r
structure Ext.Fits (e:Ext) (c:cI):Prop where
 b:e.b.length=c.b
 v:e.v.length=c.v
 i:e.i.length=c.i
 a:e.a.length=c.a
 bo:e.bo.length=c.bo
 p:e.p.length=c.p
 r:e.r.length=c.r
def Env.Le(ρ bG:Env):Prop:= ∃x:Ext,bG=ρ.ext x
def Ext.zero:Ext:=⟨[],[],[],[],[],[],[]⟩
theorem Env.QU(ρ:Env):ρ.ext Ext.zero=ρ:=by simp[Env.ext,Ext.zero]
theorem Env.Le.refl(ρ:Env):Env.Le ρ ρ:=⟨Ext.zero,(Env.QU ρ).symm⟩
theorem Env.Le.trans{a b c:Env}(h:Env.Le a b)(k:Env.Le b c):Env.Le a c:=by
 obtain⟨x,rfl⟩:=h;obtain⟨y,rfl⟩:=k;exact⟨⟨x.b++y.b,x.v++y.v,x.i++y.i,x.a++y.a,x.bo++y.bo,x.p++y.p,x.r++y.r⟩,by simp[Env.ext]⟩
theorem Env.jo(ρ:Env)(e:Ext):Env.Le ρ (ρ.ext e):=⟨e,rfl⟩
theorem Env.V3(ρ:Env)(b:Nat):ρ.oN b=ρ.ext ⟨[b],[],[],[],[],[],[]⟩:=by simp[Env.ext,Env.oN]
theorem Env.V4(ρ:Env)(v:V1):ρ.jM v=ρ.ext ⟨[],[v],[],[],[],[],[]⟩:=by simp[Env.ext,Env.jM]
theorem om{α:Type}(l m:List α)(d:α)(i:Nat)(h:i<l.length):l.getD i d=(l++m).getD i d:=by
 rw[ayk,ayk,axX h]
theorem Env.Le.fP{ρ bG:Env}{c:cI}(hl:iZ ρ c)(h:Env.Le ρ bG):iY c ρ bG:=by
 obtain⟨x,rfl⟩:=h;exact⟨λi hi=>om _ _ _ i (by rw[hl.b];exact hi),λi hi=>om _ _ _ i (by rw[hl.v];exact hi),λi hi=>om _ _ _ i (by rw[hl.i];exact hi),
  λi hi=>om _ _ _ i (by rw[hl.a];exact hi),λi hi=>om _ _ _ i (by rw[hl.bo];exact hi),λi hi=>om _ _ _ i (by rw[hl.p];exact hi),λi hi=>om _ _ _ i (by rw[hl.r];exact hi),rfl⟩
theorem iZ.ext{ρ:Env}{c d:cI}{e:Ext}(h:iZ ρ c)(k:e.Fits d):iZ (ρ.ext e) (c.add d):=
 ⟨by simp[Env.ext,cI.add,h.b,k.b],by simp[Env.ext,cI.add,h.v,k.v],by simp[Env.ext,cI.add,h.i,k.i],by simp[Env.ext,cI.add,h.a,k.a],by simp[Env.ext,cI.add,h.bo,k.bo],by simp[Env.ext,cI.add,h.p,k.p],by simp[Env.ext,cI.add,h.r,k.r]⟩
theorem Env.Le.take{ρ bG:Env}{c:cI}(hl:iZ ρ c)(h:Env.Le ρ bG):bG.take c=ρ:=by
 obtain⟨x,rfl⟩:=h;obtain⟨h1,h2,h3,h4,h5,h6,h7⟩:=hl;simp[Env.take,Env.ext,<-h1,<-h2,<-h3,<-h4,<-h5,<-h6,<-h7]
theorem ED{α:Type}: ∀(n:Nat) (f:List α->Prop),Qz n f↔∃l,l.length=n/\f l
 | 0,f=>by
  simp only[Qz];constructor
  .intro h;exact⟨[],rfl,h⟩
  .rintro ⟨l,hl,h⟩;rw[List.length_eq_zero_iff]at hl;subst hl;exact h
 | n+1,f=>by
  simp only[Qz];constructor
  .rintro ⟨x,h⟩;obtain⟨l,hl,h⟩:=(ED n _).1 h;exact⟨x::l,by simp[hl],h⟩
  .rintro ⟨l,hl,h⟩;cases l with
   | nil=>cases hl
   | cons x l=>exact⟨x,(ED n _).2 ⟨l,by simpa using hl,h⟩⟩
theorem Bg{α:Type}: ∀(n:Nat) (f:List α->Prop),AA n f↔∀l,l.length=n->f l
 | 0,f=>by
  simp only[AA];constructor
  .intro h l hl;rw[List.length_eq_zero_iff]at hl;subst hl;exact h
  .intro h;exact h [] rfl
 | n+1,f=>by
  simp only[AA];constructor
  .intro h l hl;cases l with
   | nil=>cases hl
   | cons x l=>exact(Bg n _).1 (h x) l (by simpa using hl)
  .intro h x;exact(Bg n _).2 λl hl=>h (x::l) (by simp[hl])
theorem mj(c:cI)(f:Ext->Prop):yC c f↔∃e,e.Fits c/\f e:=by
 simp only[yC,ED];constructor
 .rintro ⟨b,hb,v,hv,i,hi,a,ha,bo,hbo,p,hp,r,hr,h⟩;exact⟨⟨b,v,i,a,bo,p,r⟩,⟨hb,hv,hi,ha,hbo,hp,hr⟩,h⟩
 .rintro ⟨⟨b,v,i,a,bo,p,r⟩,⟨hb,hv,hi,ha,hbo,hp,hr⟩,h⟩;exact⟨b,hb,v,hv,i,hi,a,ha,bo,hbo,p,hp,r,hr,h⟩
theorem qX(c:cI)(f:Ext->Prop):AB c f↔∀e,e.Fits c->f e:=by
 simp only[AB,Bg];constructor
 .rintro h ⟨b,v,i,a,bo,p,r⟩ ⟨hb,hv,hi,ha,hbo,hp,hr⟩;exact h b hb v hv i hi a ha bo hbo p hp r hr
 .intro h b hb v hv i hi a ha bo hbo p hp r hr;exact h ⟨b,v,i,a,bo,p,r⟩ ⟨hb,hv,hi,ha,hbo,hp,hr⟩
def nD(ρ bG:Env)(l:List iz):Prop:= ∀x∈l,x.holds ρ bG
section
variable {ρ bG:Env}
theorem vU(l:List iz)(q:Prop):YJ ρ bG l q↔nD ρ bG l/\q:=by
 induction l with
 | nil=>simp[YJ,nD]
 | cons x r ih=>
  simp only[YJ,ih,nD,List.mem_cons,forall_eq_or_imp,and_assoc]
theorem nD.app{a b:List iz}(h:nD ρ bG (a++b)):nD ρ bG a/\nD ρ bG b:=
 ⟨λx hx=>h x (List.mem_append_left _ hx),λx hx=>h x (List.mem_append_right _ hx)⟩
theorem tW{c:cI}(h:iY c ρ bG){x:iz}(ht:x.trivial c=true):x.holds ρ bG:=by
 cases x<;>simp only[iz.trivial,ai,beq_iff_eq,ayb]at ht<;>simp only[iz.holds]
 case e x y=>obtain⟨rfl,hs⟩:=ht;rw[E.bZ h hs]
 case a n x y=>obtain⟨⟨rfl,hs⟩,_⟩:=ht;intro j _;rw[E.bZ h hs]
 case b x y=>obtain⟨rfl,hs⟩:=ht;rw[BE.bZ h hs]
 case af x y=>obtain⟨rfl,hs⟩:=ht;exact E.bZ h hs
 case v i j=>obtain⟨rfl,hs⟩:=ht;exact h.v _ hs
 case p i j=>obtain⟨rfl,hs⟩:=ht;exact h.p _ hs
 case bl i j=>obtain⟨rfl,hs⟩:=ht;exact h.b _ hs
 case rc i j=>obtain⟨rfl,hs⟩:=ht;exact h.r _ hs
theorem nD.all{c:cI}(h:iY c ρ bG){l:List iz}(hl:nD ρ bG (l.filter λq=> !q.trivial c)):nD ρ bG l:=by
 intro x hx;by_cases ht:x.trivial c=true
 .exact tW h ht
 .exact hl x (ayi.2 ⟨hx,by simpa using ht⟩)
theorem m5(s:Nat): ∀{x y:List Cut} {l:List iz} (v:Value),nS x y=some l->nD ρ bG l->dX ρ s v x=dX bG s v y
 | [],[],_,_,_,_=>rfl
 | [],_::_,l,_,h,hl=>by simp[nS]at h
 | _::_,[],l,_,h,hl=>by simp[nS]at h
 | a::r,b::r',l,v,h,hl=>by
  unfold nS at h;split at h
  .rename_i x h1 h2 h3;cases h;have e1:=hl _ (axW);have e2:=hl _ (axZ _ (axW));simp only[iz.holds]at e1 e2;simp only[dX,e1,e2,h1,h2,Option.map_none];exact m5 s _ h3 λq hq=>hl q (axZ _ (axZ _ hq))
  .rename_i m m' x h1 h2 h3;cases h;have e1:=hl _ (axW);have e2:=hl _ (axZ _ (axW));have e3:=hl _ (axZ _ (axZ _ (axW)));simp only[iz.holds]at e1 e2 e3;simp only[dX,e1,e2,e3,h1,h2,Option.map_some];exact m5 s _ h3 λq hq=>hl q (axZ _ (axZ _ (axZ _ hq)))
  .cases h
mutual
theorem pF: ∀{x y:SV} {l:List iz},vV x y=some l->nD ρ bG l->x.val ρ=y.val bG/\x.cells ρ=y.cells bG
 | x,y,l,h,hl=>by
  unfold vV at h;split at h
  .split at h
   .rename_i hk;subst hk;cases h;have:=hl _ axW;simp only[iz.holds]at this;simp only[SV.val,SV.cells,this,and_self]
   .cases h
  .cases h;have:=hl _ axW;simp only[iz.holds]at this;simp only[SV.val,SV.cells,this,and_self]
  .exact⟨rfl,rfl⟩
  .exact⟨rfl,rfl⟩
  .exact⟨rfl,rfl⟩
  .exact⟨rfl,rfl⟩
  .exact⟨rfl,rfl⟩
  .exact⟨rfl,rfl⟩
  .split at h
   .rename_i hk;subst hk;cases h;have:=hl _ axW;simp only[iz.holds]at this;simp only[SV.val,SV.cells,this,and_self]
   .cases h
  .split at h
   .rename_i hk;obtain⟨rfl,rfl⟩:=hk;cases h;have h1:=hl _ (axW);have h2:=hl _ (axZ _ (axW));simp only[iz.holds]at h1 h2;simp only[SV.val,SV.cells,h1,h2,and_self]
   .cases h
  .split at h
   .rename_i hk;obtain⟨rfl,rfl⟩:=hk;cases h;have h1:=hl _ (axW);have h2:=hl _ (axZ _ (axW));simp only[iz.holds]at h1 h2;simp only[SV.val,SV.cells,h1,h2,and_self]
   .cases h
  .split at h
   .rename_i hk;subst hk;cases h;have h1:=hl _ (axW);have h2:=hl _ (axZ _ (axW));have h3:=hl _ (axZ _ (axZ _ (axW)));have h4:=hl _ (axZ _ (axZ _ (axZ _ (axW))));simp only[iz.holds]at h1 h2 h3 h4;simp only[SV.val,SV.cells,h1,h2,h3,h4,and_self]
   .cases h
  .cases h;have:=hl _ axW;simp only[iz.holds]at this;simp only[SV.val,SV.cells,this,and_self]
  .split at h
   .rename_i hk;subst hk;exact⟨rfl,rfl⟩
   .cases h
  .cases h;have:=hl _ axW;simp only[iz.holds]at this;simp only[SV.val,SV.cells,this,and_self]
  .cases h;have h1:=hl _ axW;have h2:=hl _ (axZ _ axW);simp only[iz.holds]at h1 h2;simp only[SV.val,SV.cells,h1,h2,and_self]
  .split at h
   .rename_i hk;obtain⟨rfl,rfl⟩:=hk;cases h;have:=hl _ axW;simp only[iz.holds]at this;simp only[SV.val,SV.cells,this,and_self]
   .cases h
  .cases h;have:=hl _ axW;simp only[iz.holds,vC]at this;simp only[SV.val,SV.cells,this,s6,and_self]
  .split at h
   .rename_i hk;subst hk;have:=dQ h hl;simp only[SV.val,SV.cells,this.1,and_self]
   .cases h
  .split at h
   .rename_i hk;subst hk;have:=dQ h hl;simp only[SV.val,SV.cells,this.1,and_self]
   .cases h
  .have:=dQ h hl;simp only[SV.val,SV.cells,this.2,and_self]
  .split at h
   .rename_i hk;obtain⟨rfl,rfl⟩:=hk;cases h;rename_i k n a b;have:=hl _ axW;simp only[iz.holds,E.den,ax3]at this;have e:aj k n (a.den ρ)=aj k n (b.den bG):=cN k n this;simp only[SV.val,SV.cells,e,and_self]
   .cases h
  .have:=dQ h hl;simp only[SV.val,SV.cells,this.1,and_self]
  .rw [axV]at h;obtain⟨z,hz,rfl⟩:=h;have h1:=hl _ axW;have h2:=pF hz λx hx=>hl x (axZ _ hx)
   simp only[iz.holds]at h1;simp only[SV.val,SV.cells,h1,h2.1,and_self]
  .cases h;have:=hl _ axW;simp only[iz.holds]at this;simp only[SV.val,SV.cells,this,and_self]
  .cases h;have:=hl _ axW;simp only[iz.holds]at this;simp only[SV.val,SV.cells,this,and_self]
  .cases h;have:=hl _ axW;simp only[iz.holds]at this;simp only[SV.val,SV.cells,this,and_self]
  .split at h
   .rename_i hk;subst hk;cases h;have:=hl _ axW;simp only[iz.holds,E.den]at this;simp only[SV.val,SV.cells,this,fq,and_self]
   .cases h
  .cases h;have:=hl _ axW;simp only[iz.holds,E.den]at this;simp only[SV.val,SV.cells,this,dr,if_true,and_self]
  .split at h
   .rename_i hk;subst hk;cases h;have:=hl _ axW;simp only[iz.holds,E.den]at this;simp only[SV.val,SV.cells,<-this,fq,and_self]
   .cases h
  .cases h;have:=hl _ axW;simp only[iz.holds]at this;simp only[SV.val,SV.cells,this,and_self]
  .cases h;have:=hl _ axW;simp only[iz.holds,E.den]at this;simp only[SV.val,SV.cells,this,bg,if_true,and_self]
  .split at h
   .rename_i hk;subst hk;rw[axV]at h;obtain⟨z,hz,rfl⟩:=h;have h1:=hl _ (axW);simp only[iz.holds]at h1;simp only[SV.val,SV.cells,h1,m5 _ _ hz λq hq=>hl q (axZ _ hq),and_self]
   .cases h
  .cases h
theorem dQ: ∀{x y:List SV} {l:List iz},ij x y=some l->nD ρ bG l->SV.bF ρ x=SV.bF bG y/\SV.aq ρ x=SV.aq bG y
 | [],[],l,h,hl=>⟨rfl,rfl⟩
 | [],_::_,l,h,hl=>by simp[ij]at h
 | _::_,[],l,h,hl=>by simp[ij]at h
 | a::r,b::r',l,h,hl=>by
  unfold ij at h;split at h
  .rename_i p q hp hq;cases h;obtain⟨h1,h2⟩:=hl.app;have e1:=pF hp h1;have e2:=dQ hq h2;simp only[SV.bF,SV.aq,e1.1,e1.2,e2.1,e2.2,and_self]
  .cases h
end
theorem pG: ∀{pat act:List (Nat×SV)} {l:List iz},o5 pat act=some l->nD ρ bG l->
  ∀s v,look pat s=some v->∃v',look act s=some v'/\v.val ρ=v'.val bG
 | [],act,l,h,hl,s,v,hs=>by simp[look]at hs
 | (t,x)::r,act,l,h,hl,s,v,hs=>by
  unfold o5 at h;split at h
  .rename_i v' y tI hy;rw[axV]at h;obtain⟨z,hz,rfl⟩:=h;obtain⟨h1,h2⟩:=hl.app;unfold look at hs;split at hs
   .rename_i vM;rw[beq_iff_eq]at vM;subst vM;cases hs;exact⟨v',tI,(pF hz h1).1⟩
   .exact pG hy h2 s v hs
  .cases h
theorem kG(Dz:ρ.va=bG.va)(N:Nat){n:E}(hn:(n.den ρ 0).toNat=N): ∀{pat act:List bU} {l:List iz},lg n pat act=some l->nD ρ bG l->
  ∀i,i<N->((pat.map (bU.cells ρ)).flatMap λc=>c i)=(act.map (bU.cells bG)).flatMap λc=>c i
 | [],[],l,h,hl,i,hi=>rfl
 | [],_::_,l,h,hl,i,hi=>by simp[lg]at h
 | _::_,[],l,h,hl,i,hi=>by simp[lg]at h
 | a::r,b::r',l,h,hl,i,hi=>by
  unfold lg at h;split at h
  .rename_i ls ls' ha hb;split at h
   case isFalse=>cases h
   rename_i hk;rw[axV]at h;obtain⟨z,hz,rfl⟩:=h;have ih:=kG Dz N hn hz (λx hx=>hl x (List.mem_append_right _ hx)) i hi;simp only[ayr,ayn,ih];congr 1;obtain⟨ck,cw,ca⟩:=a;obtain⟨Vl,cw',P2⟩:=b;obtain⟨e1,e2⟩:=hk;simp only at ha hb e2;subst ha hb e2;simp only[bU.cells,cV];refine List.map_congr_left λj _=>?_
   generalize i*cw+j=m;by_cases hm:m<ls.length
   .rw [ays hm,ays (show m<ls'.length by omega)];have:=hl (.v ls[m] ls'[m]) (List.mem_append_left _ (ayg.2 ⟨(ls[m],ls'[m]),by
     rw[List.mem_iff_getElem?];exact⟨m,by rw[List.getElem?_zip_eq_some];exact⟨ays hm,ays (by omega)⟩⟩,rfl⟩))
    simp only[iz.holds]at this;simp only[Option.elim,this]
   .rw [List.getElem?_eq_none (by omega),List.getElem?_eq_none (by omega)];rfl
  .cases h
  rename_i hpt aaf;split at h
  .rename_i hk;rw[axV]at h;obtain⟨z,hz,rfl⟩:=h;have ih:=kG Dz N hn hz (λx hx=>hl x (axZ _ hx)) i hi;have h1:=hl _ axW;simp only[ayr,ayn,ih];congr 1;obtain⟨ck,cw,ca⟩:=a;obtain⟨Vl,cw',P2⟩:=b;obtain⟨e1,e2⟩:=hk;simp only at e1 e2 h1;subst e1 e2;by_cases aag:ck= .str
   .subst aag;simp only[if_true,iz.holds]at h1;simp only[bU.cells];rw[show ca.den ρ=P2.den bG from h1]
   rw[if_neg aag]at h1;simp only[iz.holds,iV,E.den]at h1;have hb: ∀j,j<cw->ca.den ρ (i*cw+j)=P2.den bG (i*cw+j):=by
    intro j hj;refine h1 _ ?_;rw[toNat_mul,hn];have:i*cw+cw<=N*cw:=by
     have:=Nat.mul_le_mul_right cw (show i+1<=N by omega)
     rwa[Nat.add_mul,Nat.one_mul]at this
    omega
   cases ck with
   | int k=>exact cN k cw hb
   | bool=>
    unfold bU.cells cR;exact List.map_congr_left λj hj=>by rw[hb j (ayc.1 hj)]
   | val v=>simp only[bU.cells,Dz]
   | ptr=>
    unfold bU.cells vF;exact List.map_congr_left λj hj=>by rw[hb j (ayc.1 hj)]
   | bW=>rfl
   | str=>exact absurd rfl aag
   | cv=>
    simp only[bU.cells,cV];exact List.map_congr_left λj hj=>by rw[hb j (ayc.1 hj)]
   | Lr l=>exact absurd rfl (aaf l l rfl)
   | pt q v=>exact absurd rfl (hpt q v)
  .split at h
   .rename_i hk;rw[axV]at h;obtain⟨z,hz,rfl⟩:=h;have ih:=kG Dz N hn hz (λx hx=>hl x (axZ _ hx)) i hi;have h1:=hl _ axW;simp only[ayr,ayn,ih];congr 1;obtain⟨ck,cw,ca⟩:=a;obtain⟨Vl,cw',P2⟩:=b;obtain⟨e0,e1,e2⟩:=hk;simp only at e0 e1 e2 h1;subst e0 e1 e2;simp only[iz.holds,iV,E.den]at h1;simp only[bU.cells,cV];refine List.map_congr_left λj hj=>?_
    rw[h1 _ ?_,Qv];have eF:=ayc.1 hj;rw[toNat_mul,hn];have:i*cw+cw<=N*cw:=by
     have:=Nat.mul_le_mul_right cw (show i+1<=N by omega)
     rwa[Nat.add_mul,Nat.one_mul]at this
    omega
   .cases h
theorem ml(Dz:ρ.va=bG.va): ∀{pat act:List bU} {l:List iz},kR pat act=some l->nD ρ bG l->pat.map (bU.cells ρ)=act.map (bU.cells bG)
 | [],[],l,h,hl=>rfl
 | [],_::_,l,h,hl=>by simp[kR]at h
 | _::_,[],l,h,hl=>by simp[kR]at h
 | a::r,b::r',l,h,hl=>by
  unfold kR at h;split at h
  .cases h
  .rename_i q v q' u GI NQ;split at h
   .rename_i hw;rw[axV]at h;obtain⟨z,hz,rfl⟩:=h;have ih:=ml Dz hz (λx hx=>hl x (axZ _ (axZ _ (axZ _ hx))));have h1:=hl _ axW;have h2:=hl _ (axZ _ axW);have h3:=hl _ (axZ _ (axZ _ axW));simp only[iz.holds]at h1 h2 h3;rw[ayr,ayr,ih];congr 1;obtain⟨ck,cw,ca⟩:=a;obtain⟨Vl,cw',P2⟩:=b;simp only at GI NQ hw h3;subst GI NQ hw;funext i;simp only[bU.cells];rw[show ca.den ρ=P2.den bG from h3,h1,h2]
   .cases h
  .cases h
  rename_i aaf aeW hpt;split at h
  .rename_i hk;rw[axV]at h;obtain⟨z,hz,rfl⟩:=h;have ih:=ml Dz hz (λx hx=>hl x (axZ _ hx));have h1:=hl _ axW;simp only[iz.holds]at h1;rw[ayr,ayr,ih];congr 1;obtain⟨ck,cw,ca⟩:=a;obtain⟨Vl,cw',P2⟩:=b;obtain⟨e1,e2⟩:=hk;simp only at e1 e2 h1;subst e1 e2;funext i;cases ck with
   | int k=>simp only[bU.cells];rw[show ca.den ρ=P2.den bG from h1]
   | bool=>simp only[bU.cells];rw[show ca.den ρ=P2.den bG from h1]
   | val v=>simp only[bU.cells,Dz]
   | ptr=>simp only[bU.cells];rw[show ca.den ρ=P2.den bG from h1]
   | bW=>rfl
   | str=>simp only[bU.cells];rw[show ca.den ρ=P2.den bG from h1]
   | cv=>simp only[bU.cells];rw[show ca.den ρ=P2.den bG from h1]
   | Lr l=>exact(aaf l rfl).elim
   | pt q v=>first | exact(hpt q v rfl).elim | exact(aeW q v rfl).elim | exact(hpt q v q v rfl rfl).elim | exact(aeW q v q v rfl rfl).elim
  .cases h
theorem lI: ∀(f:Nat) (p act:List SV),SV.aq ρ (uK f p act)=SV.aq ρ act
 | 0,_,_=>rfl
 | f+1,p,act=>by
  unfold uK;split
  .rfl
  .rename_i k e p f' k' m a r h;cases h;simp only[SV.aq,SV.cells];rw[lI f];split
   .rename_i hm;subst hm;simp[aj,dp,E.den]
   .simp only[SV.aq,SV.cells];have:aj k' (m+1) (a.den ρ)=[.int k' (a.den ρ 0)]++aj k' m ((n_ a (.lit 1)).den ρ):=by
     unfold aj;rw[List.range_succ_eq_map,ayr,List.map_map];simp only[List.singleton_append,List.cons.injEq,true_and];apply List.map_congr_left;intro j _;simp[Function.comp,gP,E.den,Nat.add_comm]
    rw[this,dp];simp[E.den]
  .rename_i k n e p f' x r h;cases h;split
   .simp only[SV.aq,lI f]
   .split
    .rename_i c d hc hd;split
     .rename_i kl e' rM;split
      .rename_i Ny;have h1:=(fy (ρ:=ρ) hc).1;have h2:=fM (ρ:=ρ) _ _ _ hd;have h3:=kN (ρ:=ρ) rM;rw[Ny,List.length_replicate,vG]at h3;rw[h3,List.drop_zero]at h1;rw[SV.aq,SV.cells,lI f,h1,h2,List.take_append_drop]
      .rfl
     .rfl
    .rfl
  .rename_i h;cases h;simp only[SV.aq,lI f]
  .rfl
theorem tX{z z':List SV}(hz:SV.aq ρ z=SV.aq bG z'): ∀{es CW:List (Nat×List SV)} {l:List iz},tg es CW=some l->nD ρ bG l->
  ((λi=>r8 es i)=λi=>r8 CW i)/\(λi=>SV.aq ρ (oP es z i))=λi=>SV.aq bG (oP CW z' i)
 | [],[],_,_,_=>⟨rfl,funext λ_=>hz⟩
 | [],_::_,_,h,_=>by simp[tg]at h
 | _::_,[],_,h,_=>by simp[tg]at h
 | (i,v)::r,(j,u)::r',l,h,hl=>by
  simp only[tg]at h;split at h
  .rename_i oJ;subst oJ;split at h
   .rename_i x y hx hy;cases h;obtain⟨h4,h5⟩:=hl.app;obtain⟨e1,e2⟩:=tX hz hy h5;have e3:=(dQ hx h4).2;refine⟨funext λk=>?_,funext λk=>?_⟩
    .simp only[r8];rw[show r8 r k=r8 r' k from congrFun e1 k]
    .simp only[oP];split
     .exact e3
     .exact congrFun e2 k
   .cases h
  .cases h
theorem tY(Dz:ρ.va=bG.va){x y:Ck}{l:List iz}(h:Aa x y=some l)(hl:nD ρ bG l):x.den ρ=y.den bG:=by
 unfold Aa at h;split at h
 .rfl
 .split at h
  .rename_i hk;subst hk;rw[axV]at h;obtain⟨z,hz,rfl⟩:=h;have h1:=hl _ axW;simp only[iz.holds]at h1;simp only[Ck.den,h1,(dQ hz λx hx=>hl x (axZ _ hx)).2,lI]
  .cases h
 .split at h
  .rename_i hk;obtain⟨rfl,rfl,rfl⟩:=hk;rw[axV]at h;obtain⟨z,hz,rfl⟩:=h;have h1:=hl _ axW;have h2:=hl _ (axZ _ axW);simp only[iz.holds]at h1 h2;have h3:=kG Dz _ rfl hz λx hx=>hl x (axZ _ (axZ _ hx))
   simp only[Ck.den,h1,h2];congr 1;unfold aL aG;rw[List.flatMap_def,List.flatMap_def];congr 1;refine List.map_congr_left λi hi=>h3 i ?_
   rw[h2];exact ayc.1 hi
  .cases h
 .cases h;have:=hl _ axW;exact this
 .split at h
  .rename_i hk;obtain⟨rfl,rfl⟩:=hk;cases h;have h1:=hl _ axW;have h2:=hl _ (axZ _ axW);simp only[iz.holds]at h1 h2;simp only[Ck.den,h1,h2]
  .cases h
 .cases h;have:=hl _ axW;simp only[iz.holds]at this;simp only[Ck.den,this]
 .cases h;have:=hl _ axW;simp only[iz.holds]at this;simp only[Ck.den,this]
 .split at h
  .rename_i hk;obtain⟨rfl,rfl,rfl⟩:=hk;split at h
   .rename_i x y hx hy;cases h;have h1:=hl _ axW;have h2:=hl _ (axZ _ axW);simp only[iz.holds]at h1 h2;have h3:nD ρ bG (x++y):=λq hq=>hl q (axZ _ (axZ _ hq))
    obtain⟨h4,h5⟩:=h3.app;simp only[Ck.den,h1,h2,(dQ hx h4).2,ml Dz hy h5]
   .cases h
  .cases h
 .split at h
  .rename_i hk;obtain⟨rfl,rfl,rfl⟩:=hk;split at h
   .rename_i x y hx hy;cases h;have h1:=hl _ axW;simp only[iz.holds]at h1;have h3:nD ρ bG (x++y):=λq hq=>hl q (axZ _ hq)
    obtain⟨h4,h5⟩:=h3.app;obtain⟨e1,e2⟩:=tX (dQ hx h4).2 hy h5;rw[Ck.mJ,Ck.mJ,h1,(dQ hx h4).2,e1,e2]
   .cases h
  .cases h
 .split at h
  .rename_i hk;obtain⟨rfl,rfl⟩:=hk;cases h;have h1:=hl _ axW;have h2:=hl _ (axZ _ axW);have h3:=hl _ (axZ _ (axZ _ axW));simp only[iz.holds]at h1 h2 h3;simp only[Ck.den,h1];congr 1;rw[<-h2];exact cN _ _ h3
  .cases h
 .split at h
  .rename_i hk;obtain⟨rfl,rfl⟩:=hk;cases h;have h1:=hl _ axW;simp only[iz.holds]at h1;simp only[Ck.den,h1]
  .cases h
 .cases h;have h1:=hl _ axW;have h2:=hl _ (axZ _ axW);simp only[iz.holds]at h1 h2;simp only[Ck.den,h1,h2]
 .cases h
theorem tZ(Dz:ρ.va=bG.va): ∀{pat act:List Ck} {l:List iz},o6 pat act=some l->nD ρ bG l->
  ∃more,act.map (Ck.den bG)=pat.map (Ck.den ρ)++more
 | [],act,l,h,hl=>⟨_,rfl⟩
 | a::r,[],l,h,hl=>by simp[o6]at h
 | a::r,b::r',l,h,hl=>by
  unfold o6 at h;split at h
  .rename_i p q hp hq;cases h;obtain⟨h1,h2⟩:=hl.app;obtain⟨m,hm⟩:=tZ Dz hq h2;exact⟨m,by simp only[ayr,List.cons_append,hm,tY Dz hp h1]⟩
  .cases h
end
end Go.RX
