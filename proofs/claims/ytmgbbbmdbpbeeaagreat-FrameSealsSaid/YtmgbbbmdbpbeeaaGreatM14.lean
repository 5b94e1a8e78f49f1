/- Executor. -/
import Derived.Test.YtmgbbbmdbpbeeaaGreatRxP
open Bool renaming and_eq_true → ai
open Int renaming toNat_natCast → afe
open List renaming all_eq_true → aeT, getElem?_append_left → ae1, getElem?_eq_getElem → afA, getElem?_eq_none → afz, map_cons → afj, mem_cons → afd, mem_cons_of_mem → ae4, mem_cons_self → aeZ, mem_filter → afk, mem_of_getElem? → afr, mem_range → afg
open List.cons renaming injEq → ae8
open Nat renaming blt_eq → afb
open Option renaming map_eq_some_iff → aeY
namespace Go.RX
structure fQ (c:cP) (ρ bI:Env):Prop where
 b: ∀i,i<c.b→ρ.bv.getD i 0=bI.bv.getD i 0
 v: ∀i,i<c.v→ρ.vv.getD i V1.nil=bI.vv.getD i V1.nil
 i: ∀i,i<c.i→ρ.iv.getD i 0=bI.iv.getD i 0
 a: ∀i,i<c.a→ρ.av.getD i (fun _=>0)=bI.av.getD i (fun _=>0)
 bo: ∀i,i<c.bo→ρ.bo.getD i false=bI.bo.getD i false
 p: ∀i,i<c.p→ρ.pv.getD i HP.emp=bI.pv.getD i HP.emp
 r: ∀i,i<c.r→ρ.lr.getD i gW=bI.lr.getD i gW
 va:ρ.va=bI.va
section
variable {c:cP} {ρ bI:Env}
theorem fQ.symm(h:fQ c ρ bI):fQ c bI ρ:=
 ⟨fun i hi=>(h.b i hi).symm,fun i hi=>(h.v i hi).symm,fun i hi=>(h.i i hi).symm,fun i hi=>(h.a i hi).symm,fun i hi=>(h.bo i hi).symm,fun i hi=>(h.p i hi).symm,fun i hi=>(h.r i hi).symm,h.va.symm⟩
theorem E.bQ(h:fQ c ρ bI){e:E}(hs:e.sc c=true):e.den ρ=e.den bI:=by
 induction e with
 | lit n=>rfl
 | var i=>simp only [E.sc,afb]at hs;simp only [E.den,h.i i hs]
 | aL i=>simp only [E.sc,afb]at hs;simp only [E.den,h.a i hs]
 | OL a i lG Ge=>simp only [E.sc,ai]at hs;simp only [E.den,lG hs.1,Ge hs.2]
 | bin o k a b lG r_=>simp only [E.sc,ai]at hs;simp only [E.den,lG hs.1,r_ hs.2]
 | wrap k a ih=>simp only [E.sc]at hs;simp only [E.den,ih hs]
 | r9 a i v lG Ge Xw=>simp only [E.sc,ai]at hs;simp only [E.den,lG hs.1.1,Ge hs.1.2,Xw hs.2]
 | shift a o lG Tk=>simp only [E.sc,ai]at hs;simp only [E.den,lG hs.1,Tk hs.2]
 | tw a o n b lG Tk YN r_=>simp only [E.sc,ai]at hs;simp only [E.den,lG hs.1.1.1,Tk hs.1.1.2,YN hs.1.2,r_ hs.2]
 | kc n a ih=>simp only [E.sc]at hs;simp only [E.den,ih hs]
 | mR b=>simp only [E.sc,afb]at hs;simp only [E.den,h.b b hs]
 | qt l=>rfl
 | PI a i lG Ge=>simp only [E.sc,ai]at hs;simp only [E.den,lG hs.1,Ge hs.2]
 | o4 a i s lG Ge Xx=>simp only [E.sc,ai]at hs;simp only [E.den,lG hs.1.1,Ge hs.1.2,Xx hs.2]
 | RF s ih=>simp only [E.sc]at hs;simp only [E.den,ih hs]
theorem BE.bQ(h:fQ c ρ bI){b:BE}(hs:b.sc c=true):b.den ρ=b.den bI:=by
 induction b with
 | lit n=>rfl
 | var i=>simp only [BE.sc,afb]at hs;simp only [BE.den,h.bo i hs]
 | eq a b=>simp only [BE.sc,ai]at hs;simp only [BE.den,E.bQ h hs.1,E.bQ h hs.2]
 | lt a b=>simp only [BE.sc,ai]at hs;simp only [BE.den,E.bQ h hs.1,E.bQ h hs.2]
 | le a b=>simp only [BE.sc,ai]at hs;simp only [BE.den,E.bQ h hs.1,E.bQ h hs.2]
 | nz a=>simp only [BE.sc]at hs;simp only [BE.den,E.bQ h hs]
 | RG n a b=>simp only [BE.sc,ai]at hs;simp only [BE.den,E.bQ h hs.1,E.bQ h hs.2]
 | not a ih=>simp only [BE.sc]at hs;simp only [BE.den,ih hs]
 | and a b lG r_=>simp only [BE.sc,ai]at hs;simp only [BE.den,lG hs.1,r_ hs.2]
 | or a b lG r_=>simp only [BE.sc,ai]at hs;simp only [BE.den,lG hs.1,r_ hs.2]
 | ite x t e Vf S3 S4=>simp only [BE.sc,ai]at hs;simp only [BE.den,Vf hs.1.1,S3 hs.1.2,S4 hs.2]
 | seq a b=>simp only [BE.sc,ai]at hs;simp only [BE.den,E.bQ h hs.1,E.bQ h hs.2]
theorem BE.gf(h:fQ c ρ bI){b:BE}(hs:b.sc c=true):b.prop ρ↔b.prop bI:=by
 rw [←BE.cc,←BE.cc,BE.bQ h hs]
theorem HZ(h:fQ c ρ bI)(s:Nat): ∀{cs:List Cut} (v:Value),cs.all (Cut.sc c)=true→cY ρ s v cs=cY bI s v cs
 | [],_,_=>rfl
 | k::r,v,hs=>by
  simp only [List.all_cons,ai,Cut.sc]at hs;obtain⟨⟨⟨h1,h2⟩,h3⟩,h4⟩:=hs;have hm:(k.mx.map fun m=>(m.den ρ 0).toNat)=k.mx.map fun m=>(m.den bI 0).toNat:=by
   cases hk:k.mx with
   | none=>rfl
   | some m=>
    rw [hk]at h3;simp only [Option.map_some,E.bQ h h3]
  simp only [cY,E.bQ h h1,E.bQ h h2,hm];exact HZ h s _ h4
mutual
theorem SV.tY(h:fQ c ρ bI): ∀{v:SV},v.sc c=true→v.val ρ=v.val bI∧v.cells ρ=v.cells bI
 | .int k e,hs=>by simp only [SV.sc]at hs;simp only [SV.val,SV.cells,E.bQ h hs,and_self]
 | .bool b,hs=>by simp only [SV.sc]at hs;simp only [SV.val,SV.cells,BE.bQ h hs,and_self]
 | .gI,_=>⟨rfl,rfl⟩
 | .b_,_=>⟨rfl,rfl⟩
 | .lH,_=>⟨rfl,rfl⟩
 | .sd,_=>⟨rfl,rfl⟩
 | .qu,_=>⟨rfl,rfl⟩
 | .undef,_=>⟨rfl,rfl⟩
 | .ptr b n,hs=>by simp only [SV.sc,afb]at hs;simp only [SV.val,SV.cells,h.b b hs,and_self]
 | .oJ b i s n,hs=>by simp only [SV.sc,afb,ai]at hs;simp only [SV.val,SV.cells,h.b b hs.1,E.bQ h hs.2,and_self]
 | .pv v i s n,hs=>by simp only [SV.sc,afb,ai]at hs;simp only [SV.val,SV.cells,h.v v hs.1,E.bQ h hs.2,and_self]
 | .sl b i s n m,hs=>by simp only [SV.sc,afb,ai]at hs;simp only [SV.val,SV.cells,h.b b hs.1.1.1,E.bQ h hs.1.1.2,E.bQ h hs.1.2,E.bQ h hs.2,and_self]
 | .vv i,hs=>by simp only [SV.sc,afb]at hs;simp only [SV.val,SV.cells,h.v i hs,and_self]
 | .str l,_=>⟨rfl,rfl⟩
 | .fn f caps,hs=>by simp only [SV.sc]at hs;simp only [SV.val,SV.cells,(SV.fI h hs).1,and_self]
 | .agg cs,hs=>by simp only [SV.sc]at hs;simp only [SV.val,SV.cells,(SV.fI h hs).2,and_self]
 | .cE k n a,hs=>by simp only [SV.sc]at hs;simp only [SV.val,SV.cells,E.bQ h hs,and_self]
 | .rR vs,hs=>by simp only [SV.sc]at hs;simp only [SV.val,SV.cells,(SV.fI h hs).1,and_self]
 | .opt b v,hs=>by simp only [SV.sc,ai]at hs;simp only [SV.val,SV.cells,BE.bQ h hs.1,(SV.tY h hs.2).1,and_self]
 | .Dw a i,hs=>by simp only [SV.sc]at hs;simp only [SV.val,SV.cells,E.bQ h hs,h.va,and_self]
 | .Jz l,hs=>by simp only [SV.sc,afb]at hs;simp only [SV.val,SV.cells,h.b l hs,and_self]
 | .mp l,hs=>by simp only [SV.sc,afb]at hs;simp only [SV.val,SV.cells,h.b l hs,and_self]
 | .nH e,hs=>by simp only [SV.sc]at hs;simp only [SV.val,SV.cells,E.bQ h hs,and_self]
 | .K9 e,hs=>by simp only [SV.sc]at hs;simp only [SV.val,SV.cells,E.bQ h hs,and_self]
 | .kg e,hs=>by simp only [SV.sc]at hs;simp only [SV.val,SV.cells,E.bQ h hs,and_self]
 | .L6 t k e,hs=>by simp only [SV.sc]at hs;simp only [SV.val,SV.cells,E.bQ h hs,and_self]
 | .FZ b v,hs=>by simp only [SV.sc,ai,afb]at hs;simp only [SV.val,SV.cells,BE.bQ h hs.1,h.v v hs.2,and_self]
 | .jP v cs s,hs=>by simp only [SV.sc,afb,ai]at hs;simp only [SV.val,SV.cells,h.v v hs.1,HZ h s _ hs.2,and_self]
theorem SV.fI(h:fQ c ρ bI): ∀{l:List SV},SV.oK c l=true→SV.vals ρ l=SV.vals bI l∧SV.aC ρ l=SV.aC bI l
 | [],_=>⟨rfl,rfl⟩
 | v::r,hs=>by
  simp only [SV.oK,ai]at hs;simp only [SV.vals,SV.aC,(SV.tY h hs.1).1,(SV.tY h hs.1).2,(SV.fI h hs.2).1,(SV.fI h hs.2).2,and_self]
end
theorem bV.xQ(h:fQ c ρ bI){k:bV}(hs:k.sc c=true):k.cells ρ=k.cells bI:=by
 obtain⟨ck,w,a⟩:=k;simp only [bV.sc,ai]at hs;have:=E.bQ h hs.1;funext i;cases ck with
 | int q=>simp only [bV.cells];rw [show a.den ρ=a.den bI from this]
 | bool=>simp only [bV.cells];rw [show a.den ρ=a.den bI from this]
 | val v=>simp only [bV.cells,h.va]
 | ptr=>simp only [bV.cells];rw [show a.den ρ=a.den bI from this]
 | b_=>rfl
 | str=>simp only [bV.cells];rw [show a.den ρ=a.den bI from this]
 | cv=>simp only [bV.cells];rw [show a.den ρ=a.den bI from this]
 | Ba l=>
  simp only [bV.cells,ic];refine List.map_congr_left fun j _=>?_
  cases hj:l[i*w+j]? with
  | none=>rfl
  | some n=>
   have:=aeT.1 hs.2 n (afr hj);simp only [afb]at this;simp only [Option.elim,h.v n this]
theorem sF(h:fQ c ρ bI){aF:List bV}(hs:aF.all (bV.sc c)=true)(n:Nat):aM ρ n aF=aM bI n aF:=by
 unfold aM;congr 1;exact List.map_congr_left fun k hk=>bV.xQ h (aeT.1 hs k hk)
theorem Bv{c:cP}{z:List SV}(hz:SV.oK c z=true): ∀{es:List (Nat×List SV)},(es.all fun e=>SV.oK c e.2)=true→∀i,SV.oK c (mr es z i)=true
 | [],_,_=>hz
 | (k,v)::r,h,i=>by
  simp only [List.all_cons,ai]at h;unfold mr;split
  ·exact h.1
  ·exact Bv hz h.2 i
theorem Ck.bQ(h:fQ c ρ bI){ck:Ck}(hs:ck.sc c=true):ck.den ρ=ck.den bI:=by
 cases ck with
 | emp=>rfl
 | row b w cs=>simp only [Ck.sc,ai,afb]at hs;simp only [Ck.den,h.b b hs.1,(SV.fI h hs.2).2]
 | bC md v t s n aF=>simp only [Ck.sc,ai,afb]at hs;simp only [Ck.den,h.v v hs.1.1,E.bQ h hs.1.2,sF h hs.2]
 | abs i=>simp only [Ck.sc,afb]at hs;simp only [Ck.den,h.p i hs]
 | kr l r s j=>simp only [Ck.sc,ai,afb]at hs;simp only [Ck.den,h.b l hs.1,h.r r hs.2]
 | J1 b=>simp only [Ck.sc,afb]at hs;simp only [Ck.den,h.b b hs]
 | qy b=>simp only [Ck.sc,afb]at hs;simp only [Ck.den,h.b b hs]
 | map b kl ka va z has aF=>
  simp only [Ck.sc,ai,afb]at hs;have hc:aF.map (bV.cells ρ)=aF.map (bV.cells bI):=List.map_congr_left fun k hk=>bV.xQ h (aeT.1 hs.2 k hk)
  simp only [Ck.den,h.b b hs.1.1.1,(SV.fI h hs.1.1.2).2,E.bQ h hs.1.2,hc]
 | RQ b l p=>simp only [Ck.sc,afb]at hs;simp only [Ck.den,h.b b hs]
 | HR b t e n a=>simp only [Ck.sc,ai,afb]at hs;simp only [Ck.den,h.b b hs.1.1,E.bQ h hs.1.2,E.bQ h hs.2]
 | sq b kl ka va z es=>
  simp only [Ck.sc,ai,afb]at hs;have hr:(fun i=>SV.aC ρ (mr es z i))=fun i=>SV.aC bI (mr es z i):=funext fun i=>(SV.fI h (Bv hs.1.2 hs.2 i)).2
  rw [Ck.jX,Ck.jX,h.b b hs.1.1,(SV.fI h hs.1.2).2,hr]
theorem jz(h:fQ c ρ bI){hp:List Ck}(hs:hp.all (Ck.sc c)=true):hp.map (Ck.den ρ)=hp.map (Ck.den bI):=
 List.map_congr_left fun k hk=>Ck.bQ h (aeT.1 hs k hk)
end
structure fJ (ρ:Env) (c:cP):Prop where
 b:ρ.bv.length=c.b
 v:ρ.vv.length=c.v
 i:ρ.iv.length=c.i
 a:ρ.av.length=c.a
 bo:ρ.bo.length=c.bo
 p:ρ.pv.length=c.p
 r:ρ.lr.length=c.r
structure Ext.Fits (e:Ext) (c:cP):Prop where
 b:e.b.length=c.b
 v:e.v.length=c.v
 i:e.i.length=c.i
 a:e.a.length=c.a
 bo:e.bo.length=c.bo
 p:e.p.length=c.p
 r:e.r.length=c.r
def Env.Le(ρ bI:Env):Prop:= ∃x:Ext,bI=ρ.ext x
def Ext.zero:Ext:=⟨[],[],[],[],[],[],[]⟩
theorem Env.Mv(ρ:Env):ρ.ext Ext.zero=ρ:=by simp [Env.ext,Ext.zero]
theorem Env.Le.refl(ρ:Env):Env.Le ρ ρ:=⟨Ext.zero,(Env.Mv ρ).symm⟩
theorem Env.Le.trans{a b c:Env}(h:Env.Le a b)(k:Env.Le b c):Env.Le a c:=by
 obtain⟨x,rfl⟩:=h;obtain⟨y,rfl⟩:=k;exact⟨⟨x.b++y.b,x.v++y.v,x.i++y.i,x.a++y.a,x.bo++y.bo,x.p++y.p,x.r++y.r⟩,by simp [Env.ext]⟩
theorem Env.fX(ρ:Env)(e:Ext):Env.Le ρ (ρ.ext e):=⟨e,rfl⟩
theorem Env.P6(ρ:Env)(b:Nat):ρ.lI b=ρ.ext ⟨[b],[],[],[],[],[],[]⟩:=by simp [Env.ext,Env.lI]
theorem Env.P7(ρ:Env)(v:V1):ρ.fW v=ρ.ext ⟨[],[v],[],[],[],[],[]⟩:=by simp [Env.ext,Env.fW]
theorem lu{α:Type}(l m:List α)(d:α)(i:Nat)(h:i<l.length):l.getD i d=(l++m).getD i d:=by
 rw [List.getD_eq_getElem?_getD,List.getD_eq_getElem?_getD,ae1 h]
theorem Env.Le.agree{ρ bI:Env}{c:cP}(hl:fJ ρ c)(h:Env.Le ρ bI):fQ c ρ bI:=by
 obtain⟨x,rfl⟩:=h;exact⟨fun i hi=>lu _ _ _ i (by rw [hl.b];exact hi),fun i hi=>lu _ _ _ i (by rw [hl.v];exact hi),fun i hi=>lu _ _ _ i (by rw [hl.i];exact hi),
  fun i hi=>lu _ _ _ i (by rw [hl.a];exact hi),fun i hi=>lu _ _ _ i (by rw [hl.bo];exact hi),fun i hi=>lu _ _ _ i (by rw [hl.p];exact hi),fun i hi=>lu _ _ _ i (by rw [hl.r];exact hi),rfl⟩
theorem fJ.ext{ρ:Env}{c d:cP}{e:Ext}(h:fJ ρ c)(k:e.Fits d):fJ (ρ.ext e) (c.add d):=
 ⟨by simp [Env.ext,cP.add,h.b,k.b],by simp [Env.ext,cP.add,h.v,k.v],by simp [Env.ext,cP.add,h.i,k.i],by simp [Env.ext,cP.add,h.a,k.a],by simp [Env.ext,cP.add,h.bo,k.bo],by simp [Env.ext,cP.add,h.p,k.p],by simp [Env.ext,cP.add,h.r,k.r]⟩
theorem Env.Le.take{ρ bI:Env}{c:cP}(hl:fJ ρ c)(h:Env.Le ρ bI):bI.take c=ρ:=by
 obtain⟨x,rfl⟩:=h;obtain⟨h1,h2,h3,h4,h5,h6,h7⟩:=hl;simp [Env.take,Env.ext,←h1,←h2,←h3,←h4,←h5,←h6,←h7]
theorem Bw{α:Type}: ∀(n:Nat) (f:List α→Prop),Ma n f↔∃l,l.length=n∧f l
 | 0,f=>by
  simp only [Ma];constructor
  ·intro h;exact⟨[],rfl,h⟩
  ·rintro ⟨l,hl,h⟩;rw [List.length_eq_zero_iff]at hl;subst hl;exact h
 | n+1,f=>by
  simp only [Ma];constructor
  ·rintro ⟨x,h⟩;obtain⟨l,hl,h⟩:=(Bw n _).1 h;exact⟨x::l,by simp [hl],h⟩
  ·rintro ⟨l,hl,h⟩;cases l with
   | nil=>cases hl
   | cons x l=>exact⟨x,(Bw n _).2 ⟨l,by simpa using hl,h⟩⟩
theorem xR{α:Type}: ∀(n:Nat) (f:List α→Prop),xh n f↔∀l,l.length=n→f l
 | 0,f=>by
  simp only [xh];constructor
  ·intro h l hl;rw [List.length_eq_zero_iff]at hl;subst hl;exact h
  ·intro h;exact h [] rfl
 | n+1,f=>by
  simp only [xh];constructor
  ·intro h l hl;cases l with
   | nil=>cases hl
   | cons x l=>exact(xR n _).1 (h x) l (by simpa using hl)
  ·intro h x;exact(xR n _).2 fun l hl=>h (x::l) (by simp [hl])
theorem jA(c:cP)(f:Ext→Prop):uJ c f↔∃e,e.Fits c∧f e:=by
 simp only [uJ,Bw];constructor
 ·rintro ⟨b,hb,v,hv,i,hi,a,ha,bo,J2,p,hp,r,hr,h⟩;exact⟨⟨b,v,i,a,bo,p,r⟩,⟨hb,hv,hi,ha,J2,hp,hr⟩,h⟩
 ·rintro ⟨⟨b,v,i,a,bo,p,r⟩,⟨hb,hv,hi,ha,J2,hp,hr⟩,h⟩;exact⟨b,hb,v,hv,i,hi,a,ha,bo,J2,p,hp,r,hr,h⟩
theorem nY(c:cP)(f:Ext→Prop):xi c f↔∀e,e.Fits c→f e:=by
 simp only [xi,xR];constructor
 ·rintro h ⟨b,v,i,a,bo,p,r⟩ ⟨hb,hv,hi,ha,J2,hp,hr⟩;exact h b hb v hv i hi a ha bo J2 p hp r hr
 ·intro h b hb v hv i hi a ha bo J2 p hp r hr;exact h ⟨b,v,i,a,bo,p,r⟩ ⟨hb,hv,hi,ha,J2,hp,hr⟩
def kF(ρ bI:Env)(l:List fD):Prop:= ∀x∈l,x.holds ρ bI
section
variable {ρ bI:Env}
theorem sG(l:List fD)(q:Prop):RK ρ bI l q↔kF ρ bI l∧q:=by
 induction l with
 | nil=>simp [RK,kF]
 | cons x r ih=>
  simp only [RK,ih,kF,afd,forall_eq_or_imp,and_assoc]
theorem kF.app{a b:List fD}(h:kF ρ bI (a++b)):kF ρ bI a∧kF ρ bI b:=
 ⟨fun x hx=>h x (List.mem_append_left _ hx),fun x hx=>h x (List.mem_append_right _ hx)⟩
theorem qJ{c:cP}(h:fQ c ρ bI){x:fD}(ht:x.trivial c=true):x.holds ρ bI:=by
 cases x<;>simp only [fD.trivial,ai,beq_iff_eq,afb]at ht<;>simp only [fD.holds]
 case e x y=>obtain⟨rfl,hs⟩:=ht;rw [E.bQ h hs]
 case a n x y=>obtain⟨⟨rfl,hs⟩,_⟩:=ht;intro j _;rw [E.bQ h hs]
 case b x y=>obtain⟨rfl,hs⟩:=ht;rw [BE.bQ h hs]
 case af x y=>obtain⟨rfl,hs⟩:=ht;exact E.bQ h hs
 case v i j=>obtain⟨rfl,hs⟩:=ht;exact h.v _ hs
 case p i j=>obtain⟨rfl,hs⟩:=ht;exact h.p _ hs
 case bl i j=>obtain⟨rfl,hs⟩:=ht;exact h.b _ hs
 case rc i j=>obtain⟨rfl,hs⟩:=ht;exact h.r _ hs
theorem kF.all{c:cP}(h:fQ c ρ bI){l:List fD}(hl:kF ρ bI (l.filter fun q=> !q.trivial c)):kF ρ bI l:=by
 intro x hx;by_cases ht:x.trivial c=true
 ·exact qJ h ht
 ·exact hl x (afk.2 ⟨hx,by simpa using ht⟩)
theorem ku(s:Nat): ∀{x y:List Cut} {l:List fD} (v:Value),kQ x y=some l→kF ρ bI l→cY ρ s v x=cY bI s v y
 | [],[],_,_,_,_=>rfl
 | [],_::_,l,_,h,hl=>by simp [kQ]at h
 | _::_,[],l,_,h,hl=>by simp [kQ]at h
 | a::r,b::r',l,v,h,hl=>by
  unfold kQ at h;split at h
  ·rename_i x h1 h2 h3;cases h;have e1:=hl _ (aeZ);have e2:=hl _ (ae4 _ (aeZ));simp only [fD.holds]at e1 e2;simp only [cY,e1,e2,h1,h2,Option.map_none];exact ku s _ h3 fun q hq=>hl q (ae4 _ (ae4 _ hq))
  ·rename_i m m' x h1 h2 h3;cases h;have e1:=hl _ (aeZ);have e2:=hl _ (ae4 _ (aeZ));have e3:=hl _ (ae4 _ (ae4 _ (aeZ)));simp only [fD.holds]at e1 e2 e3;simp only [cY,e1,e2,e3,h1,h2,Option.map_some];exact ku s _ h3 fun q hq=>hl q (ae4 _ (ae4 _ (ae4 _ hq)))
  ·cases h
mutual
theorem mA: ∀{x y:SV} {l:List fD},sH x y=some l→kF ρ bI l→x.val ρ=y.val bI∧x.cells ρ=y.cells bI
 | x,y,l,h,hl=>by
  unfold sH at h;split at h
  ·split at h
   ·rename_i hk;subst hk;cases h;have:=hl _ aeZ;simp only [fD.holds]at this;simp only [SV.val,SV.cells,this,and_self]
   ·cases h
  ·cases h;have:=hl _ aeZ;simp only [fD.holds]at this;simp only [SV.val,SV.cells,this,and_self]
  ·exact⟨rfl,rfl⟩
  ·exact⟨rfl,rfl⟩
  ·exact⟨rfl,rfl⟩
  ·exact⟨rfl,rfl⟩
  ·exact⟨rfl,rfl⟩
  ·exact⟨rfl,rfl⟩
  ·split at h
   ·rename_i hk;subst hk;cases h;have:=hl _ aeZ;simp only [fD.holds]at this;simp only [SV.val,SV.cells,this,and_self]
   ·cases h
  ·split at h
   ·rename_i hk;obtain⟨rfl,rfl⟩:=hk;cases h;have h1:=hl _ (aeZ);have h2:=hl _ (ae4 _ (aeZ));simp only [fD.holds]at h1 h2;simp only [SV.val,SV.cells,h1,h2,and_self]
   ·cases h
  ·split at h
   ·rename_i hk;obtain⟨rfl,rfl⟩:=hk;cases h;have h1:=hl _ (aeZ);have h2:=hl _ (ae4 _ (aeZ));simp only [fD.holds]at h1 h2;simp only [SV.val,SV.cells,h1,h2,and_self]
   ·cases h
  ·split at h
   ·rename_i hk;subst hk;cases h;have h1:=hl _ (aeZ);have h2:=hl _ (ae4 _ (aeZ));have h3:=hl _ (ae4 _ (ae4 _ (aeZ)));have h4:=hl _ (ae4 _ (ae4 _ (ae4 _ (aeZ))));simp only [fD.holds]at h1 h2 h3 h4;simp only [SV.val,SV.cells,h1,h2,h3,h4,and_self]
   ·cases h
  ·cases h;have:=hl _ aeZ;simp only [fD.holds]at this;simp only [SV.val,SV.cells,this,and_self]
  ·split at h
   ·rename_i hk;subst hk;exact⟨rfl,rfl⟩
   ·cases h
  ·cases h;have:=hl _ aeZ;simp only [fD.holds]at this;simp only [SV.val,SV.cells,this,and_self]
  ·cases h;have h1:=hl _ aeZ;have h2:=hl _ (ae4 _ aeZ);simp only [fD.holds]at h1 h2;simp only [SV.val,SV.cells,h1,h2,and_self]
  ·split at h
   ·rename_i hk;obtain⟨rfl,rfl⟩:=hk;cases h;have:=hl _ aeZ;simp only [fD.holds]at this;simp only [SV.val,SV.cells,this,and_self]
   ·cases h
  ·cases h;have:=hl _ aeZ;simp only [fD.holds,k_]at this;simp only [SV.val,SV.cells,this,mS,and_self]
  ·split at h
   ·rename_i hk;subst hk;have:=dr h hl;simp only [SV.val,SV.cells,this.1,and_self]
   ·cases h
  ·have:=dr h hl;simp only [SV.val,SV.cells,this.2,and_self]
  ·split at h
   ·rename_i hk;obtain⟨rfl,rfl⟩:=hk;cases h;rename_i k n a b;have:=hl _ aeZ;simp only [fD.holds,E.den,afe]at this;have e:al k n (a.den ρ)=al k n (b.den bI):=bF k n this;simp only [SV.val,SV.cells,e,and_self]
   ·cases h
  ·have:=dr h hl;simp only [SV.val,SV.cells,this.1,and_self]
  ·rw [aeY]at h;obtain⟨z,hz,rfl⟩:=h;have h1:=hl _ aeZ;have h2:=mA hz fun x hx=>hl x (ae4 _ hx)
   simp only [fD.holds]at h1;simp only [SV.val,SV.cells,h1,h2.1,and_self]
  ·cases h;have:=hl _ aeZ;simp only [fD.holds]at this;simp only [SV.val,SV.cells,this,and_self]
  ·cases h;have:=hl _ aeZ;simp only [fD.holds]at this;simp only [SV.val,SV.cells,this,and_self]
  ·cases h;have:=hl _ aeZ;simp only [fD.holds]at this;simp only [SV.val,SV.cells,this,and_self]
  ·split at h
   ·rename_i hk;subst hk;cases h;have:=hl _ aeZ;simp only [fD.holds,E.den]at this;simp only [SV.val,SV.cells,this,se,and_self]
   ·cases h
  ·cases h;have:=hl _ aeZ;simp only [fD.holds,E.den]at this;simp only [SV.val,SV.cells,this,mU,if_true,and_self]
  ·split at h
   ·rename_i hk;subst hk;cases h;have:=hl _ aeZ;simp only [fD.holds,E.den]at this;simp only [SV.val,SV.cells,←this,se,and_self]
   ·cases h
  ·cases h;have:=hl _ aeZ;simp only [fD.holds]at this;simp only [SV.val,SV.cells,this,and_self]
  ·cases h;have:=hl _ aeZ;simp only [fD.holds,E.den]at this;simp only [SV.val,SV.cells,this,Bf,if_true,and_self]
  ·split at h
   ·rename_i hk;subst hk;rw [aeY]at h;obtain⟨z,hz,rfl⟩:=h;have h1:=hl _ (aeZ);simp only [fD.holds]at h1;simp only [SV.val,SV.cells,h1,ku _ _ hz fun q hq=>hl q (ae4 _ hq),and_self]
   ·cases h
  ·cases h
theorem dr: ∀{x y:List SV} {l:List fD},fR x y=some l→kF ρ bI l→SV.vals ρ x=SV.vals bI y∧SV.aC ρ x=SV.aC bI y
 | [],[],l,h,hl=>⟨rfl,rfl⟩
 | [],_::_,l,h,hl=>by simp [fR]at h
 | _::_,[],l,h,hl=>by simp [fR]at h
 | a::r,b::r',l,h,hl=>by
  unfold fR at h;split at h
  ·rename_i p q hp hq;cases h;obtain⟨h1,h2⟩:=hl.app;have e1:=mA hp h1;have e2:=dr hq h2;simp only [SV.vals,SV.aC,e1.1,e1.2,e2.1,e2.2,and_self]
  ·cases h
end
theorem mB: ∀{pat act:List (Nat×SV)} {l:List fD},lT pat act=some l→kF ρ bI l→
  ∀s v,look pat s=some v→∃v',look act s=some v'∧v.val ρ=v'.val bI
 | [],act,l,h,hl,s,v,hs=>by simp [look]at hs
 | (t,x)::r,act,l,h,hl,s,v,hs=>by
  unfold lT at h;split at h
  ·rename_i v' y qw hy;rw [aeY]at h;obtain⟨z,hz,rfl⟩:=h;obtain⟨h1,h2⟩:=hl.app;unfold look at hs;split at hs
   ·rename_i tz;rw [beq_iff_eq]at tz;subst tz;cases hs;exact⟨v',qw,(mA hz h1).1⟩
   ·exact mB hy h2 s v hs
  ·cases h
theorem iA(D0:ρ.va=bI.va)(N:Nat){n:E}(hn:(n.den ρ 0).toNat=N): ∀{pat act:List bV} {l:List fD},iK n pat act=some l→kF ρ bI l→
  ∀i,i<N→((pat.map (bV.cells ρ)).flatMap fun c=>c i)=(act.map (bV.cells bI)).flatMap fun c=>c i
 | [],[],l,h,hl,i,hi=>rfl
 | [],_::_,l,h,hl,i,hi=>by simp [iK]at h
 | _::_,[],l,h,hl,i,hi=>by simp [iK]at h
 | a::r,b::r',l,h,hl,i,hi=>by
  unfold iK at h;split at h
  ·rename_i ls YO ha hb;split at h
   case isFalse=>cases h
   rename_i hk;rw [aeY]at h;obtain⟨z,hz,rfl⟩:=h;have ih:=iA D0 N hn hz (fun x hx=>hl x (List.mem_append_right _ hx)) i hi;simp only [afj,List.flatMap_cons,ih];congr 1;obtain⟨ck,cw,ca⟩:=a;obtain⟨P8,YP,OV⟩:=b;obtain⟨e1,e2⟩:=hk;simp only at ha hb e2;subst ha hb e2;simp only [bV.cells,ic];refine List.map_congr_left fun j _=>?_
   generalize i*cw+j=m;by_cases hm:m<ls.length
   ·rw [afA hm,afA (show m<YO.length by omega)];have:=hl (.v ls[m] YO[m]) (List.mem_append_left _ (List.mem_map.2 ⟨(ls[m],YO[m]),by
     rw [List.mem_iff_getElem?];exact⟨m,by rw [List.getElem?_zip_eq_some];exact⟨afA hm,afA (by omega)⟩⟩,rfl⟩))
    simp only [fD.holds]at this;simp only [Option.elim,this]
   ·rw [afz (by omega),afz (by omega)];rfl
  rename_i Tl;split at h
  ·rename_i hk;rw [aeY]at h;obtain⟨z,hz,rfl⟩:=h;have ih:=iA D0 N hn hz (fun x hx=>hl x (ae4 _ hx)) i hi;have h1:=hl _ aeZ;simp only [afj,List.flatMap_cons,ih];congr 1;obtain⟨ck,cw,ca⟩:=a;obtain⟨P8,YP,OV⟩:=b;obtain⟨e1,e2⟩:=hk;simp only at e1 e2 h1;subst e1 e2;by_cases Tm:ck= .str
   ·subst Tm;simp only [if_true,fD.holds]at h1;simp only [bV.cells];rw [show ca.den ρ=OV.den bI from h1]
   rw [if_neg Tm]at h1;simp only [fD.holds,fN,E.den]at h1;have hb: ∀j,j<cw→ca.den ρ (i*cw+j)=OV.den bI (i*cw+j):=by
    intro j hj;refine h1 _ ?_;rw [toNat_mul,hn];have:i*cw+cw≤N*cw:=by
     have:=Nat.mul_le_mul_right cw (show i+1≤N by omega)
     rwa [Nat.add_mul,Nat.one_mul]at this
    omega
   cases ck with
   | int k=>exact bF k cw hb
   | bool=>
    unfold bV.cells zf;exact List.map_congr_left fun j hj=>by rw [hb j (afg.1 hj)]
   | val v=>simp only [bV.cells,D0]
   | ptr=>
    unfold bV.cells xn;exact List.map_congr_left fun j hj=>by rw [hb j (afg.1 hj)]
   | b_=>rfl
   | str=>exact absurd rfl Tm
   | cv=>
    simp only [bV.cells,ic];exact List.map_congr_left fun j hj=>by rw [hb j (afg.1 hj)]
   | Ba l=>exact absurd rfl (Tl l l rfl)
  ·split at h
   ·rename_i hk;rw [aeY]at h;obtain⟨z,hz,rfl⟩:=h;have ih:=iA D0 N hn hz (fun x hx=>hl x (ae4 _ hx)) i hi;have h1:=hl _ aeZ;simp only [afj,List.flatMap_cons,ih];congr 1;obtain⟨ck,cw,ca⟩:=a;obtain⟨P8,YP,OV⟩:=b;obtain⟨e0,e1,e2⟩:=hk;simp only at e0 e1 e2 h1;subst e0 e1 e2;simp only [fD.holds,fN,E.den]at h1;simp only [bV.cells,ic];refine List.map_congr_left fun j hj=>?_
    rw [h1 _ ?_,L7];have k9:=afg.1 hj;rw [toNat_mul,hn];have:i*cw+cw≤N*cw:=by
     have:=Nat.mul_le_mul_right cw (show i+1≤N by omega)
     rwa [Nat.add_mul,Nat.one_mul]at this
    omega
   ·cases h
theorem ng(D0:ρ.va=bI.va): ∀{pat act:List bV} {l:List fD},jB pat act=some l→kF ρ bI l→pat.map (bV.cells ρ)=act.map (bV.cells bI)
 | [],[],l,h,hl=>rfl
 | [],_::_,l,h,hl=>by simp [jB]at h
 | _::_,[],l,h,hl=>by simp [jB]at h
 | a::r,b::r',l,h,hl=>by
  unfold jB at h;split at h
  ·cases h
  rename_i Tl;split at h
  ·rename_i hk;rw [aeY]at h;obtain⟨z,hz,rfl⟩:=h;have ih:=ng D0 hz (fun x hx=>hl x (ae4 _ hx));have h1:=hl _ aeZ;simp only [fD.holds]at h1;rw [afj,afj,ih];congr 1;obtain⟨ck,cw,ca⟩:=a;obtain⟨P8,YP,OV⟩:=b;obtain⟨e1,e2⟩:=hk;simp only at e1 e2 h1;subst e1 e2;funext i;cases ck with
   | int k=>simp only [bV.cells];rw [show ca.den ρ=OV.den bI from h1]
   | bool=>simp only [bV.cells];rw [show ca.den ρ=OV.den bI from h1]
   | val v=>simp only [bV.cells,D0]
   | ptr=>simp only [bV.cells];rw [show ca.den ρ=OV.den bI from h1]
   | b_=>rfl
   | str=>simp only [bV.cells];rw [show ca.den ρ=OV.den bI from h1]
   | cv=>simp only [bV.cells];rw [show ca.den ρ=OV.den bI from h1]
   | Ba l=>exact absurd rfl (Tl l)
  ·cases h
theorem jd: ∀(f:Nat) (p act:List SV),SV.aC ρ (rB f p act)=SV.aC ρ act
 | 0,_,_=>rfl
 | f+1,p,act=>by
  unfold rB;split
  ·rfl
  ·rename_i k e p f' k' m a r h;cases h;simp only [SV.aC,SV.cells];rw [jd f];split
   ·rename_i hm;subst hm;simp [al,ei,E.den]
   ·simp only [SV.aC,SV.cells];have:al k' (m+1) (a.den ρ)=[.int k' (a.den ρ 0)]++al k' m ((jt a (.lit 1)).den ρ):=by
     unfold al;rw [List.range_succ_eq_map,afj,List.map_map];simp only [List.singleton_append,ae8,true_and];apply List.map_congr_left;intro j _;simp [Function.comp,dP,E.den,Nat.add_comm]
    rw [this,ei];simp [E.den]
  ·rename_i k n e p f' x r h;cases h;split
   ·simp only [SV.aC,jd f]
   ·split
    ·rename_i c d hc hd;split
     ·rename_i kl e' zh;split
      ·rename_i CL;have h1:=(eK (ρ:=ρ) hc).1;have h2:=dY (ρ:=ρ) _ _ _ hd;have h3:=gv (ρ:=ρ) zh;rw [CL,List.length_replicate,nN]at h3;rw [h3,List.drop_zero]at h1;rw [SV.aC,SV.cells,jd f,h1,h2,List.take_append_drop]
      ·rfl
     ·rfl
    ·rfl
  ·rename_i h;cases h;simp only [SV.aC,jd f]
  ·rfl
theorem qK{z z':List SV}(hz:SV.aC ρ z=SV.aC bI z'): ∀{es VH:List (Nat×List SV)} {l:List fD},qb es VH=some l→kF ρ bI l→
  ((fun i=>pj es i)=fun i=>pj VH i)∧(fun i=>SV.aC ρ (mr es z i))=fun i=>SV.aC bI (mr VH z' i)
 | [],[],_,_,_=>⟨rfl,funext fun _=>hz⟩
 | [],_::_,_,h,_=>by simp [qb]at h
 | _::_,[],_,h,_=>by simp [qb]at h
 | (i,v)::r,(j,u)::r',l,h,hl=>by
  simp only [qb]at h;split at h
  ·rename_i ru;subst ru;split at h
   ·rename_i x y hx hy;cases h;obtain⟨h4,h5⟩:=hl.app;obtain⟨e1,e2⟩:=qK hz hy h5;have e3:=(dr hx h4).2;refine⟨funext fun k=>?_,funext fun k=>?_⟩
    ·simp only [pj];rw [show pj r k=pj r' k from congrFun e1 k]
    ·simp only [mr];split
     ·exact e3
     ·exact congrFun e2 k
   ·cases h
  ·cases h
theorem qL(D0:ρ.va=bI.va){x y:Ck}{l:List fD}(h:wB x y=some l)(hl:kF ρ bI l):x.den ρ=y.den bI:=by
 unfold wB at h;split at h
 ·rfl
 ·split at h
  ·rename_i hk;subst hk;rw [aeY]at h;obtain⟨z,hz,rfl⟩:=h;have h1:=hl _ aeZ;simp only [fD.holds]at h1;simp only [Ck.den,h1,(dr hz fun x hx=>hl x (ae4 _ hx)).2,jd]
  ·cases h
 ·split at h
  ·rename_i hk;obtain⟨rfl,rfl,rfl⟩:=hk;rw [aeY]at h;obtain⟨z,hz,rfl⟩:=h;have h1:=hl _ aeZ;have h2:=hl _ (ae4 _ aeZ);simp only [fD.holds]at h1 h2;have h3:=iA D0 _ rfl hz fun x hx=>hl x (ae4 _ (ae4 _ hx))
   simp only [Ck.den,h1,h2];congr 1;unfold aM aQ;rw [List.flatMap_def,List.flatMap_def];congr 1;refine List.map_congr_left fun i hi=>h3 i ?_
   rw [h2];exact afg.1 hi
  ·cases h
 ·cases h;have:=hl _ aeZ;exact this
 ·split at h
  ·rename_i hk;obtain⟨rfl,rfl⟩:=hk;cases h;have h1:=hl _ aeZ;have h2:=hl _ (ae4 _ aeZ);simp only [fD.holds]at h1 h2;simp only [Ck.den,h1,h2]
  ·cases h
 ·cases h;have:=hl _ aeZ;simp only [fD.holds]at this;simp only [Ck.den,this]
 ·cases h;have:=hl _ aeZ;simp only [fD.holds]at this;simp only [Ck.den,this]
 ·split at h
  ·rename_i hk;obtain⟨rfl,rfl,rfl⟩:=hk;split at h
   ·rename_i x y hx hy;cases h;have h1:=hl _ aeZ;have h2:=hl _ (ae4 _ aeZ);simp only [fD.holds]at h1 h2;have h3:kF ρ bI (x++y):=fun q hq=>hl q (ae4 _ (ae4 _ hq))
    obtain⟨h4,h5⟩:=h3.app;simp only [Ck.den,h1,h2,(dr hx h4).2,ng D0 hy h5]
   ·cases h
  ·cases h
 ·split at h
  ·rename_i hk;obtain⟨rfl,rfl,rfl⟩:=hk;split at h
   ·rename_i x y hx hy;cases h;have h1:=hl _ aeZ;simp only [fD.holds]at h1;have h3:kF ρ bI (x++y):=fun q hq=>hl q (ae4 _ hq)
    obtain⟨h4,h5⟩:=h3.app;obtain⟨e1,e2⟩:=qK (dr hx h4).2 hy h5;rw [Ck.jX,Ck.jX,h1,(dr hx h4).2,e1,e2]
   ·cases h
  ·cases h
 ·split at h
  ·rename_i hk;obtain⟨rfl,rfl⟩:=hk;cases h;have h1:=hl _ aeZ;have h2:=hl _ (ae4 _ aeZ);have h3:=hl _ (ae4 _ (ae4 _ aeZ));simp only [fD.holds]at h1 h2 h3;simp only [Ck.den,h1];congr 1;rw [←h2];exact bF _ _ h3
  ·cases h
 ·split at h
  ·rename_i hk;obtain⟨rfl,rfl⟩:=hk;cases h;have h1:=hl _ aeZ;simp only [fD.holds]at h1;simp only [Ck.den,h1]
  ·cases h
 ·cases h
theorem qM(D0:ρ.va=bI.va): ∀{pat act:List Ck} {l:List fD},lU pat act=some l→kF ρ bI l→
  ∃more,act.map (Ck.den bI)=pat.map (Ck.den ρ)++more
 | [],act,l,h,hl=>⟨_,rfl⟩
 | a::r,[],l,h,hl=>by simp [lU]at h
 | a::r,b::r',l,h,hl=>by
  unfold lU at h;split at h
  ·rename_i p q hp hq;cases h;obtain⟨h1,h2⟩:=hl.app;obtain⟨m,hm⟩:=qM D0 hq h2;exact⟨m,by simp only [afj,List.cons_append,hm,qL D0 hp h1]⟩
  ·cases h
end
end Go.RX
