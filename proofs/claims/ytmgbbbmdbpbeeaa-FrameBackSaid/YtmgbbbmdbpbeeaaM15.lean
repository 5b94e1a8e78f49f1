/- Executor. -/
import Derived.Test.YtmgbbbmdbpbeeaaRxP
open Bool renaming and_eq_true → ai
open List renaming all_eq_true → adt, getElem?_append_left → adz, getElem?_eq_getElem → ad8, getElem?_eq_none → aef, map_cons → adT, mem_cons → adW, mem_cons_of_mem → adB, mem_cons_self → ady, mem_filter → adU, mem_of_getElem? → ad3, mem_range → adZ
open List.cons renaming injEq → adF
open Nat renaming blt_eq → adK
open Option renaming map_eq_some_iff → adw
namespace Go.RX
structure ft (c:cG) (ρ bE:Env):Prop where
 b: ∀i,i<c.b→ρ.bv.getD i 0=bE.bv.getD i 0
 v: ∀i,i<c.v→ρ.vv.getD i V1.nil=bE.vv.getD i V1.nil
 i: ∀i,i<c.i→ρ.iv.getD i 0=bE.iv.getD i 0
 a: ∀i,i<c.a→ρ.av.getD i (fun _=>0)=bE.av.getD i (fun _=>0)
 bo: ∀i,i<c.bo→ρ.bo.getD i false=bE.bo.getD i false
 p: ∀i,i<c.p→ρ.pv.getD i HP.emp=bE.pv.getD i HP.emp
 r: ∀i,i<c.r→ρ.lr.getD i gJ=bE.lr.getD i gJ
 va:ρ.va=bE.va
section
variable {c:cG} {ρ bE:Env}
theorem ft.symm(h:ft c ρ bE):ft c bE ρ:=
 ⟨fun i hi=>(h.b i hi).symm,fun i hi=>(h.v i hi).symm,fun i hi=>(h.i i hi).symm,fun i hi=>(h.a i hi).symm,fun i hi=>(h.bo i hi).symm,fun i hi=>(h.p i hi).symm,fun i hi=>(h.r i hi).symm,h.va.symm⟩
theorem E.bK(h:ft c ρ bE){e:E}(hs:e.sc c=true):e.den ρ=e.den bE:=by
 induction e with
 | lit n=>rfl
 | var i=>simp only [E.sc,adK]at hs;simp only [E.den,h.i i hs]
 | aO i=>simp only [E.sc,adK]at hs;simp only [E.den,h.a i hs]
 | NV a i lB Gt=>simp only [E.sc,ai]at hs;simp only [E.den,lB hs.1,Gt hs.2]
 | bin o k a b lB rP=>simp only [E.sc,ai]at hs;simp only [E.den,lB hs.1,rP hs.2]
 | wrap k a ih=>simp only [E.sc]at hs;simp only [E.den,ih hs]
 | rO a i v lB Gt Wf=>simp only [E.sc,ai]at hs;simp only [E.den,lB hs.1.1,Gt hs.1.2,Wf hs.2]
 | shift a o lB R_=>simp only [E.sc,ai]at hs;simp only [E.den,lB hs.1,R_ hs.2]
 | s7 a o n b lB R_ Xm rP=>simp only [E.sc,ai]at hs;simp only [E.den,lB hs.1.1.1,R_ hs.1.1.2,Xm hs.1.2,rP hs.2]
 | kc n a ih=>simp only [E.sc]at hs;simp only [E.den,ih hs]
 | ky b=>simp only [E.sc,adK]at hs;simp only [E.den,h.b b hs]
 | oz l=>rfl
 | OO a i lB Gt=>simp only [E.sc,ai]at hs;simp only [E.den,lB hs.1,Gt hs.2]
 | oR a i s lB Gt Wg=>simp only [E.sc,ai]at hs;simp only [E.den,lB hs.1.1,Gt hs.1.2,Wg hs.2]
 | QN s ih=>simp only [E.sc]at hs;simp only [E.den,ih hs]
theorem BE.bK(h:ft c ρ bE){b:BE}(hs:b.sc c=true):b.den ρ=b.den bE:=by
 induction b with
 | lit n=>rfl
 | var i=>simp only [BE.sc,adK]at hs;simp only [BE.den,h.bo i hs]
 | eq a b=>simp only [BE.sc,ai]at hs;simp only [BE.den,E.bK h hs.1,E.bK h hs.2]
 | lt a b=>simp only [BE.sc,ai]at hs;simp only [BE.den,E.bK h hs.1,E.bK h hs.2]
 | le a b=>simp only [BE.sc,ai]at hs;simp only [BE.den,E.bK h hs.1,E.bK h hs.2]
 | nz a=>simp only [BE.sc]at hs;simp only [BE.den,E.bK h hs]
 | QO n a b=>simp only [BE.sc,ai]at hs;simp only [BE.den,E.bK h hs.1,E.bK h hs.2]
 | not a ih=>simp only [BE.sc]at hs;simp only [BE.den,ih hs]
 | and a b lB rP=>simp only [BE.sc,ai]at hs;simp only [BE.den,lB hs.1,rP hs.2]
 | or a b lB rP=>simp only [BE.sc,ai]at hs;simp only [BE.den,lB hs.1,rP hs.2]
 | ite x t e T8 RQ RR=>simp only [BE.sc,ai]at hs;simp only [BE.den,T8 hs.1.1,RQ hs.1.2,RR hs.2]
 | seq a b=>simp only [BE.sc,ai]at hs;simp only [BE.den,E.bK h hs.1,E.bK h hs.2]
theorem BE.fL(h:ft c ρ bE){b:BE}(hs:b.sc c=true):b.prop ρ↔b.prop bE:=by
 rw [←BE.bX,←BE.bX,BE.bK h hs]
theorem HU(h:ft c ρ bE)(s:Nat): ∀{cs:List Cut} (v:Value),cs.all (Cut.sc c)=true→cN ρ s v cs=cN bE s v cs
 | [],_,_=>rfl
 | k::r,v,hs=>by
  simp only [List.all_cons,ai,Cut.sc]at hs;obtain⟨⟨⟨h1,h2⟩,h3⟩,h4⟩:=hs;have hm:(k.mx.map fun m=>(m.den ρ 0).toNat)=k.mx.map fun m=>(m.den bE 0).toNat:=by
   cases hk:k.mx with
   | none=>rfl
   | some m=>
    rw [hk]at h3;simp only [Option.map_some,E.bK h h3]
  simp only [cN,E.bK h h1,E.bK h h2,hm];exact HU h s _ h4
mutual
theorem SV.tM(h:ft c ρ bE): ∀{v:SV},v.sc c=true→v.val ρ=v.val bE∧v.cells ρ=v.cells bE
 | .int k e,hs=>by simp only [SV.sc]at hs;simp only [SV.val,SV.cells,E.bK h hs,and_self]
 | .bool b,hs=>by simp only [SV.sc]at hs;simp only [SV.val,SV.cells,BE.bK h hs,and_self]
 | .iK,_=>⟨rfl,rfl⟩
 | .cC,_=>⟨rfl,rfl⟩
 | .mc,_=>⟨rfl,rfl⟩
 | .rQ,_=>⟨rfl,rfl⟩
 | .rR,_=>⟨rfl,rfl⟩
 | .undef,_=>⟨rfl,rfl⟩
 | .ptr b n,hs=>by simp only [SV.sc,adK]at hs;simp only [SV.val,SV.cells,h.b b hs,and_self]
 | .oB b i s n,hs=>by simp only [SV.sc,adK,ai]at hs;simp only [SV.val,SV.cells,h.b b hs.1,E.bK h hs.2,and_self]
 | .pv v i s n,hs=>by simp only [SV.sc,adK,ai]at hs;simp only [SV.val,SV.cells,h.v v hs.1,E.bK h hs.2,and_self]
 | .sl b i s n m,hs=>by simp only [SV.sc,adK,ai]at hs;simp only [SV.val,SV.cells,h.b b hs.1.1.1,E.bK h hs.1.1.2,E.bK h hs.1.2,E.bK h hs.2,and_self]
 | .vv i,hs=>by simp only [SV.sc,adK]at hs;simp only [SV.val,SV.cells,h.v i hs,and_self]
 | .str l,_=>⟨rfl,rfl⟩
 | .fn f caps,hs=>by simp only [SV.sc]at hs;simp only [SV.val,SV.cells,(SV.ff h hs).1,and_self]
 | .agg cs,hs=>by simp only [SV.sc]at hs;simp only [SV.val,SV.cells,(SV.ff h hs).2,and_self]
 | .cD k n a,hs=>by simp only [SV.sc]at hs;simp only [SV.val,SV.cells,E.bK h hs,and_self]
 | .oJ vs,hs=>by simp only [SV.sc]at hs;simp only [SV.val,SV.cells,(SV.ff h hs).1,and_self]
 | .opt b v,hs=>by simp only [SV.sc,ai]at hs;simp only [SV.val,SV.cells,BE.bK h hs.1,(SV.tM h hs.2).1,and_self]
 | .DK a i,hs=>by simp only [SV.sc]at hs;simp only [SV.val,SV.cells,E.bK h hs,h.va,and_self]
 | .Jj l,hs=>by simp only [SV.sc,adK]at hs;simp only [SV.val,SV.cells,h.b l hs,and_self]
 | .mp l,hs=>by simp only [SV.sc,adK]at hs;simp only [SV.val,SV.cells,h.b l hs,and_self]
 | .nB e,hs=>by simp only [SV.sc]at hs;simp only [SV.val,SV.cells,E.bK h hs,and_self]
 | .KN e,hs=>by simp only [SV.sc]at hs;simp only [SV.val,SV.cells,E.bK h hs,and_self]
 | .kb e,hs=>by simp only [SV.sc]at hs;simp only [SV.val,SV.cells,E.bK h hs,and_self]
 | .Ln t k e,hs=>by simp only [SV.sc]at hs;simp only [SV.val,SV.cells,E.bK h hs,and_self]
 | .F_ b v,hs=>by simp only [SV.sc,ai,adK]at hs;simp only [SV.val,SV.cells,BE.bK h hs.1,h.v v hs.2,and_self]
 | .jP v cs s,hs=>by simp only [SV.sc,adK,ai]at hs;simp only [SV.val,SV.cells,h.v v hs.1,HU h s _ hs.2,and_self]
theorem SV.ff(h:ft c ρ bE): ∀{l:List SV},SV.oE c l=true→SV.vals ρ l=SV.vals bE l∧SV.aB ρ l=SV.aB bE l
 | [],_=>⟨rfl,rfl⟩
 | v::r,hs=>by
  simp only [SV.oE,ai]at hs;simp only [SV.vals,SV.aB,(SV.tM h hs.1).1,(SV.tM h hs.1).2,(SV.ff h hs.2).1,(SV.ff h hs.2).2,and_self]
end
theorem bS.xV(h:ft c ρ bE){k:bS}(hs:k.sc c=true):k.cells ρ=k.cells bE:=by
 obtain⟨ck,w,a⟩:=k;simp only [bS.sc,ai]at hs;have:=E.bK h hs.1;funext i;cases ck with
 | int q=>simp only [bS.cells];rw [show a.den ρ=a.den bE from this]
 | bool=>simp only [bS.cells];rw [show a.den ρ=a.den bE from this]
 | val v=>simp only [bS.cells,h.va]
 | ptr=>simp only [bS.cells];rw [show a.den ρ=a.den bE from this]
 | cC=>rfl
 | str=>simp only [bS.cells];rw [show a.den ρ=a.den bE from this]
 | cv=>simp only [bS.cells];rw [show a.den ρ=a.den bE from this]
 | qV l=>
  simp only [bS.cells,gX];refine List.map_congr_left fun j _=>?_
  cases hj:l[i*w+j]? with
  | none=>rfl
  | some n=>
   have:=adt.1 hs.2 n (ad3 hj);simp only [adK]at this;simp only [Option.elim,h.v n this]
theorem so(h:ft c ρ bE){aH:List bS}(hs:aH.all (bS.sc c)=true)(n:Nat):aN ρ n aH=aN bE n aH:=by
 unfold aN;congr 1;exact List.map_congr_left fun k hk=>bS.xV h (adt.1 hs k hk)
theorem BU{c:cG}{z:List SV}(hz:SV.oE c z=true): ∀{es:List (Nat×List SV)},(es.all fun e=>SV.oE c e.2)=true→∀i,SV.oE c (mi es z i)=true
 | [],_,_=>hz
 | (k,v)::r,h,i=>by
  simp only [List.all_cons,ai]at h;unfold mi;split
  ·exact h.1
  ·exact BU hz h.2 i
theorem Ck.bK(h:ft c ρ bE){ck:Ck}(hs:ck.sc c=true):ck.den ρ=ck.den bE:=by
 cases ck with
 | emp=>rfl
 | row b w cs=>simp only [Ck.sc,ai,adK]at hs;simp only [Ck.den,h.b b hs.1,(SV.ff h hs.2).2]
 | bu md v t s n aH=>simp only [Ck.sc,ai,adK]at hs;simp only [Ck.den,h.v v hs.1.1,E.bK h hs.1.2,so h hs.2]
 | abs i=>simp only [Ck.sc,adK]at hs;simp only [Ck.den,h.p i hs]
 | kg l r s j=>simp only [Ck.sc,ai,adK]at hs;simp only [Ck.den,h.b l hs.1,h.r r hs.2]
 | JH b=>simp only [Ck.sc,adK]at hs;simp only [Ck.den,h.b b hs]
 | qu b=>simp only [Ck.sc,adK]at hs;simp only [Ck.den,h.b b hs]
 | map b kl ka va z has aH=>
  simp only [Ck.sc,ai,adK]at hs;have hc:aH.map (bS.cells ρ)=aH.map (bS.cells bE):=List.map_congr_left fun k hk=>bS.xV h (adt.1 hs.2 k hk)
  simp only [Ck.den,h.b b hs.1.1.1,(SV.ff h hs.1.1.2).2,E.bK h hs.1.2,hc]
 | KR b l p=>simp only [Ck.sc,adK]at hs;simp only [Ck.den,h.b b hs]
 | HO b t e n a=>simp only [Ck.sc,ai,adK]at hs;simp only [Ck.den,h.b b hs.1.1,E.bK h hs.1.2,E.bK h hs.2]
 | r8 b kl ka va z es=>
  simp only [Ck.sc,ai,adK]at hs;have hr:(fun i=>SV.aB ρ (mi es z i))=fun i=>SV.aB bE (mi es z i):=funext fun i=>(SV.ff h (BU hs.1.2 hs.2 i)).2
  rw [Ck.jX,Ck.jX,h.b b hs.1.1,(SV.ff h hs.1.2).2,hr]
theorem jA(h:ft c ρ bE){hp:List Ck}(hs:hp.all (Ck.sc c)=true):hp.map (Ck.den ρ)=hp.map (Ck.den bE):=
 List.map_congr_left fun k hk=>Ck.bK h (adt.1 hs k hk)
end
structure fg (ρ:Env) (c:cG):Prop where
 b:ρ.bv.length=c.b
 v:ρ.vv.length=c.v
 i:ρ.iv.length=c.i
 a:ρ.av.length=c.a
 bo:ρ.bo.length=c.bo
 p:ρ.pv.length=c.p
 r:ρ.lr.length=c.r
structure Ext.Fits (e:Ext) (c:cG):Prop where
 b:e.b.length=c.b
 v:e.v.length=c.v
 i:e.i.length=c.i
 a:e.a.length=c.a
 bo:e.bo.length=c.bo
 p:e.p.length=c.p
 r:e.r.length=c.r
def Env.Le(ρ bE:Env):Prop:= ∃x:Ext,bE=ρ.ext x
def Ext.zero:Ext:=⟨[],[],[],[],[],[],[]⟩
theorem Env.LO(ρ:Env):ρ.ext Ext.zero=ρ:=by simp [Env.ext,Ext.zero]
theorem Env.Le.refl(ρ:Env):Env.Le ρ ρ:=⟨Ext.zero,(Env.LO ρ).symm⟩
theorem Env.Le.trans{a b c:Env}(h:Env.Le a b)(k:Env.Le b c):Env.Le a c:=by
 obtain⟨x,rfl⟩:=h;obtain⟨y,rfl⟩:=k;exact⟨⟨x.b++y.b,x.v++y.v,x.i++y.i,x.a++y.a,x.bo++y.bo,x.p++y.p,x.r++y.r⟩,by simp [Env.ext]⟩
theorem Env.fG(ρ:Env)(e:Ext):Env.Le ρ (ρ.ext e):=⟨e,rfl⟩
theorem Env.O7(ρ:Env)(b:Nat):ρ.lC b=ρ.ext ⟨[b],[],[],[],[],[],[]⟩:=by simp [Env.ext,Env.lC]
theorem Env.O8(ρ:Env)(v:V1):ρ.fF v=ρ.ext ⟨[],[v],[],[],[],[],[]⟩:=by simp [Env.ext,Env.fF]
theorem ld{α:Type}(l m:List α)(d:α)(i:Nat)(h:i<l.length):l.getD i d=(l++m).getD i d:=by
 rw [List.getD_eq_getElem?_getD,List.getD_eq_getElem?_getD,adz h]
theorem Env.Le.agree{ρ bE:Env}{c:cG}(hl:fg ρ c)(h:Env.Le ρ bE):ft c ρ bE:=by
 obtain⟨x,rfl⟩:=h;exact⟨fun i hi=>ld _ _ _ i (by rw [hl.b];exact hi),fun i hi=>ld _ _ _ i (by rw [hl.v];exact hi),fun i hi=>ld _ _ _ i (by rw [hl.i];exact hi),
  fun i hi=>ld _ _ _ i (by rw [hl.a];exact hi),fun i hi=>ld _ _ _ i (by rw [hl.bo];exact hi),fun i hi=>ld _ _ _ i (by rw [hl.p];exact hi),fun i hi=>ld _ _ _ i (by rw [hl.r];exact hi),rfl⟩
theorem fg.ext{ρ:Env}{c d:cG}{e:Ext}(h:fg ρ c)(k:e.Fits d):fg (ρ.ext e) (c.add d):=
 ⟨by simp [Env.ext,cG.add,h.b,k.b],by simp [Env.ext,cG.add,h.v,k.v],by simp [Env.ext,cG.add,h.i,k.i],by simp [Env.ext,cG.add,h.a,k.a],by simp [Env.ext,cG.add,h.bo,k.bo],by simp [Env.ext,cG.add,h.p,k.p],by simp [Env.ext,cG.add,h.r,k.r]⟩
theorem Env.Le.take{ρ bE:Env}{c:cG}(hl:fg ρ c)(h:Env.Le ρ bE):bE.take c=ρ:=by
 obtain⟨x,rfl⟩:=h;obtain⟨h1,h2,h3,h4,h5,h6,h7⟩:=hl;simp [Env.take,Env.ext,←h1,←h2,←h3,←h4,←h5,←h6,←h7]
theorem BV{α:Type}: ∀(n:Nat) (f:List α→Prop),Lt n f↔∃l,l.length=n∧f l
 | 0,f=>by
  simp only [Lt];constructor
  ·intro h;exact⟨[],rfl,h⟩
  ·rintro ⟨l,hl,h⟩;rw [List.length_eq_zero_iff]at hl;subst hl;exact h
 | n+1,f=>by
  simp only [Lt];constructor
  ·rintro ⟨x,h⟩;obtain⟨l,hl,h⟩:=(BV n _).1 h;exact⟨x::l,by simp [hl],h⟩
  ·rintro ⟨l,hl,h⟩;cases l with
   | nil=>cases hl
   | cons x l=>exact⟨x,(BV n _).2 ⟨l,by simpa using hl,h⟩⟩
theorem xW{α:Type}: ∀(n:Nat) (f:List α→Prop),xn n f↔∀l,l.length=n→f l
 | 0,f=>by
  simp only [xn];constructor
  ·intro h l hl;rw [List.length_eq_zero_iff]at hl;subst hl;exact h
  ·intro h;exact h [] rfl
 | n+1,f=>by
  simp only [xn];constructor
  ·intro h l hl;cases l with
   | nil=>cases hl
   | cons x l=>exact(xW n _).1 (h x) l (by simpa using hl)
  ·intro h x;exact(xW n _).2 fun l hl=>h (x::l) (by simp [hl])
theorem jB(c:cG)(f:Ext→Prop):uK c f↔∃e,e.Fits c∧f e:=by
 simp only [uK,BV];constructor
 ·rintro ⟨b,hb,v,hv,i,hi,a,ha,bo,JI,p,hp,r,hr,h⟩;exact⟨⟨b,v,i,a,bo,p,r⟩,⟨hb,hv,hi,ha,JI,hp,hr⟩,h⟩
 ·rintro ⟨⟨b,v,i,a,bo,p,r⟩,⟨hb,hv,hi,ha,JI,hp,hr⟩,h⟩;exact⟨b,hb,v,hv,i,hi,a,ha,bo,JI,p,hp,r,hr,h⟩
theorem nR(c:cG)(f:Ext→Prop):xp c f↔∀e,e.Fits c→f e:=by
 simp only [xp,xW];constructor
 ·rintro h ⟨b,v,i,a,bo,p,r⟩ ⟨hb,hv,hi,ha,JI,hp,hr⟩;exact h b hb v hv i hi a ha bo JI p hp r hr
 ·intro h b hb v hv i hi a ha bo JI p hp r hr;exact h ⟨b,v,i,a,bo,p,r⟩ ⟨hb,hv,hi,ha,JI,hp,hr⟩
def kD(ρ bE:Env)(l:List eX):Prop:= ∀x∈l,x.holds ρ bE
section
variable {ρ bE:Env}
theorem sq(l:List eX)(q:Prop):QS ρ bE l q↔kD ρ bE l∧q:=by
 induction l with
 | nil=>simp [QS,kD]
 | cons x r ih=>
  simp only [QS,ih,kD,adW,forall_eq_or_imp,and_assoc]
theorem kD.app{a b:List eX}(h:kD ρ bE (a++b)):kD ρ bE a∧kD ρ bE b:=
 ⟨fun x hx=>h x (List.mem_append_left _ hx),fun x hx=>h x (List.mem_append_right _ hx)⟩
theorem qF{c:cG}(h:ft c ρ bE){x:eX}(ht:x.trivial c=true):x.holds ρ bE:=by
 cases x<;>simp only [eX.trivial,ai,beq_iff_eq,adK]at ht<;>simp only [eX.holds]
 case e x y=>obtain⟨rfl,hs⟩:=ht;rw [E.bK h hs]
 case a n x y=>obtain⟨⟨rfl,hs⟩,_⟩:=ht;intro j _;rw [E.bK h hs]
 case b x y=>obtain⟨rfl,hs⟩:=ht;rw [BE.bK h hs]
 case af x y=>obtain⟨rfl,hs⟩:=ht;exact E.bK h hs
 case v i j=>obtain⟨rfl,hs⟩:=ht;exact h.v _ hs
 case p i j=>obtain⟨rfl,hs⟩:=ht;exact h.p _ hs
 case bl i j=>obtain⟨rfl,hs⟩:=ht;exact h.b _ hs
 case rc i j=>obtain⟨rfl,hs⟩:=ht;exact h.r _ hs
theorem kD.all{c:cG}(h:ft c ρ bE){l:List eX}(hl:kD ρ bE (l.filter fun q=> !q.trivial c)):kD ρ bE l:=by
 intro x hx;by_cases ht:x.trivial c=true
 ·exact qF h ht
 ·exact hl x (adU.2 ⟨hx,by simpa using ht⟩)
theorem kj(s:Nat): ∀{x y:List Cut} {l:List eX} (v:Value),kN x y=some l→kD ρ bE l→cN ρ s v x=cN bE s v y
 | [],[],_,_,_,_=>rfl
 | [],_::_,l,_,h,hl=>by simp [kN]at h
 | _::_,[],l,_,h,hl=>by simp [kN]at h
 | a::r,b::r',l,v,h,hl=>by
  unfold kN at h;split at h
  ·rename_i x h1 h2 h3;cases h;have e1:=hl _ (ady);have e2:=hl _ (adB _ (ady));simp only [eX.holds]at e1 e2;simp only [cN,e1,e2,h1,h2,Option.map_none];exact kj s _ h3 fun q hq=>hl q (adB _ (adB _ hq))
  ·rename_i m m' x h1 h2 h3;cases h;have e1:=hl _ (ady);have e2:=hl _ (adB _ (ady));have e3:=hl _ (adB _ (adB _ (ady)));simp only [eX.holds]at e1 e2 e3;simp only [cN,e1,e2,e3,h1,h2,Option.map_some];exact kj s _ h3 fun q hq=>hl q (adB _ (adB _ (adB _ hq)))
  ·cases h
mutual
theorem mo: ∀{x y:SV} {l:List eX},sr x y=some l→kD ρ bE l→x.val ρ=y.val bE∧x.cells ρ=y.cells bE
 | x,y,l,h,hl=>by
  unfold sr at h;split at h
  ·split at h
   ·rename_i hk;subst hk;cases h;have:=hl _ ady;simp only [eX.holds]at this;simp only [SV.val,SV.cells,this,and_self]
   ·cases h
  ·cases h;have:=hl _ ady;simp only [eX.holds]at this;simp only [SV.val,SV.cells,this,and_self]
  ·exact⟨rfl,rfl⟩
  ·exact⟨rfl,rfl⟩
  ·exact⟨rfl,rfl⟩
  ·exact⟨rfl,rfl⟩
  ·exact⟨rfl,rfl⟩
  ·exact⟨rfl,rfl⟩
  ·split at h
   ·rename_i hk;subst hk;cases h;have:=hl _ ady;simp only [eX.holds]at this;simp only [SV.val,SV.cells,this,and_self]
   ·cases h
  ·split at h
   ·rename_i hk;obtain⟨rfl,rfl⟩:=hk;cases h;have h1:=hl _ (ady);have h2:=hl _ (adB _ (ady));simp only [eX.holds]at h1 h2;simp only [SV.val,SV.cells,h1,h2,and_self]
   ·cases h
  ·split at h
   ·rename_i hk;obtain⟨rfl,rfl⟩:=hk;cases h;have h1:=hl _ (ady);have h2:=hl _ (adB _ (ady));simp only [eX.holds]at h1 h2;simp only [SV.val,SV.cells,h1,h2,and_self]
   ·cases h
  ·split at h
   ·rename_i hk;subst hk;cases h;have h1:=hl _ (ady);have h2:=hl _ (adB _ (ady));have h3:=hl _ (adB _ (adB _ (ady)));have h4:=hl _ (adB _ (adB _ (adB _ (ady))));simp only [eX.holds]at h1 h2 h3 h4;simp only [SV.val,SV.cells,h1,h2,h3,h4,and_self]
   ·cases h
  ·cases h;have:=hl _ ady;simp only [eX.holds]at this;simp only [SV.val,SV.cells,this,and_self]
  ·split at h
   ·rename_i hk;subst hk;exact⟨rfl,rfl⟩
   ·cases h
  ·cases h;have:=hl _ ady;simp only [eX.holds]at this;simp only [SV.val,SV.cells,this,and_self]
  ·cases h;have h1:=hl _ ady;have h2:=hl _ (adB _ ady);simp only [eX.holds]at h1 h2;simp only [SV.val,SV.cells,h1,h2,and_self]
  ·split at h
   ·rename_i hk;obtain⟨rfl,rfl⟩:=hk;cases h;have:=hl _ ady;simp only [eX.holds]at this;simp only [SV.val,SV.cells,this,and_self]
   ·cases h
  ·cases h;have:=hl _ ady;simp only [eX.holds,kU]at this;simp only [SV.val,SV.cells,this,mK,and_self]
  ·split at h
   ·rename_i hk;subst hk;have:=c_ h hl;simp only [SV.val,SV.cells,this.1,and_self]
   ·cases h
  ·have:=c_ h hl;simp only [SV.val,SV.cells,this.2,and_self]
  ·split at h
   ·rename_i hk;obtain⟨rfl,rfl⟩:=hk;cases h;rename_i k n a b;have:=hl _ ady;simp only [eX.holds,E.den,Int.toNat_natCast]at this;have e:aj k n (a.den ρ)=aj k n (b.den bE):=bA k n this;simp only [SV.val,SV.cells,e,and_self]
   ·cases h
  ·have:=c_ h hl;simp only [SV.val,SV.cells,this.1,and_self]
  ·rw [adw]at h;obtain⟨z,hz,rfl⟩:=h;have h1:=hl _ ady;have h2:=mo hz fun x hx=>hl x (adB _ hx)
   simp only [eX.holds]at h1;simp only [SV.val,SV.cells,h1,h2.1,and_self]
  ·cases h;have:=hl _ ady;simp only [eX.holds]at this;simp only [SV.val,SV.cells,this,and_self]
  ·cases h;have:=hl _ ady;simp only [eX.holds]at this;simp only [SV.val,SV.cells,this,and_self]
  ·cases h;have:=hl _ ady;simp only [eX.holds]at this;simp only [SV.val,SV.cells,this,and_self]
  ·split at h
   ·rename_i hk;subst hk;cases h;have:=hl _ ady;simp only [eX.holds,E.den]at this;simp only [SV.val,SV.cells,this,rS,and_self]
   ·cases h
  ·cases h;have:=hl _ ady;simp only [eX.holds,E.den]at this;simp only [SV.val,SV.cells,this,mM,if_true,and_self]
  ·split at h
   ·rename_i hk;subst hk;cases h;have:=hl _ ady;simp only [eX.holds,E.den]at this;simp only [SV.val,SV.cells,←this,rS,and_self]
   ·cases h
  ·cases h;have:=hl _ ady;simp only [eX.holds]at this;simp only [SV.val,SV.cells,this,and_self]
  ·cases h;have:=hl _ ady;simp only [eX.holds,E.den]at this;simp only [SV.val,SV.cells,this,Bz,if_true,and_self]
  ·split at h
   ·rename_i hk;subst hk;rw [adw]at h;obtain⟨z,hz,rfl⟩:=h;have h1:=hl _ (ady);simp only [eX.holds]at h1;simp only [SV.val,SV.cells,h1,kj _ _ hz fun q hq=>hl q (adB _ hq),and_self]
   ·cases h
  ·cases h
theorem c_: ∀{x y:List SV} {l:List eX},fu x y=some l→kD ρ bE l→SV.vals ρ x=SV.vals bE y∧SV.aB ρ x=SV.aB bE y
 | [],[],l,h,hl=>⟨rfl,rfl⟩
 | [],_::_,l,h,hl=>by simp [fu]at h
 | _::_,[],l,h,hl=>by simp [fu]at h
 | a::r,b::r',l,h,hl=>by
  unfold fu at h;split at h
  ·rename_i p q hp hq;cases h;obtain⟨h1,h2⟩:=hl.app;have e1:=mo hp h1;have e2:=c_ hq h2;simp only [SV.vals,SV.aB,e1.1,e1.2,e2.1,e2.2,and_self]
  ·cases h
end
theorem mr: ∀{pat act:List (Nat×SV)} {l:List eX},lO pat act=some l→kD ρ bE l→
  ∀s v,look pat s=some v→∃v',look act s=some v'∧v.val ρ=v'.val bE
 | [],act,l,h,hl,s,v,hs=>by simp [look]at hs
 | (t,x)::r,act,l,h,hl,s,v,hs=>by
  unfold lO at h;split at h
  ·rename_i v' y qt hy;rw [adw]at h;obtain⟨z,hz,rfl⟩:=h;obtain⟨h1,h2⟩:=hl.app;unfold look at hs;split at hs
   ·rename_i rI;rw [beq_iff_eq]at rI;subst rI;cases hs;exact⟨v',qt,(mo hz h1).1⟩
   ·exact mr hy h2 s v hs
  ·cases h
theorem hO(Eb:ρ.va=bE.va)(N:Nat){n:E}(hn:(n.den ρ 0).toNat=N): ∀{pat act:List bS} {l:List eX},ik n pat act=some l→kD ρ bE l→
  ∀i,i<N→((pat.map (bS.cells ρ)).flatMap fun c=>c i)=(act.map (bS.cells bE)).flatMap fun c=>c i
 | [],[],l,h,hl,i,hi=>rfl
 | [],_::_,l,h,hl,i,hi=>by simp [ik]at h
 | _::_,[],l,h,hl,i,hi=>by simp [ik]at h
 | a::r,b::r',l,h,hl,i,hi=>by
  unfold ik at h;split at h
  ·rename_i ls Xn ha hb;split at h
   case isFalse=>cases h
   rename_i hk;rw [adw]at h;obtain⟨z,hz,rfl⟩:=h;have ih:=hO Eb N hn hz (fun x hx=>hl x (List.mem_append_right _ hx)) i hi;simp only [adT,List.flatMap_cons,ih];congr 1;obtain⟨ck,cw,ca⟩:=a;obtain⟨O9,Xo,N8⟩:=b;obtain⟨e1,e2⟩:=hk;simp only at ha hb e2;subst ha hb e2;simp only [bS.cells,gX];refine List.map_congr_left fun j _=>?_
   generalize i*cw+j=m;by_cases hm:m<ls.length
   ·rw [ad8 hm,ad8 (show m<Xn.length by omega)];have:=hl (.v ls[m] Xn[m]) (List.mem_append_left _ (List.mem_map.2 ⟨(ls[m],Xn[m]),by
     rw [List.mem_iff_getElem?];exact⟨m,by rw [List.getElem?_zip_eq_some];exact⟨ad8 hm,ad8 (by omega)⟩⟩,rfl⟩))
    simp only [eX.holds]at this;simp only [Option.elim,this]
   ·rw [aef (by omega),aef (by omega)];rfl
  rename_i Sa;split at h
  ·rename_i hk;rw [adw]at h;obtain⟨z,hz,rfl⟩:=h;have ih:=hO Eb N hn hz (fun x hx=>hl x (adB _ hx)) i hi;have h1:=hl _ ady;simp only [adT,List.flatMap_cons,ih];congr 1;obtain⟨ck,cw,ca⟩:=a;obtain⟨O9,Xo,N8⟩:=b;obtain⟨e1,e2⟩:=hk;simp only at e1 e2 h1;subst e1 e2;by_cases Sb:ck= .str
   ·subst Sb;simp only [if_true,eX.holds]at h1;simp only [bS.cells];rw [show ca.den ρ=N8.den bE from h1]
   rw [if_neg Sb]at h1;simp only [eX.holds,fl,E.den]at h1;have hb: ∀j,j<cw→ca.den ρ (i*cw+j)=N8.den bE (i*cw+j):=by
    intro j hj;refine h1 _ ?_;rw [toNat_mul,hn];have:i*cw+cw≤N*cw:=by
     have:=Nat.mul_le_mul_right cw (show i+1≤N by omega)
     rwa [Nat.add_mul,Nat.one_mul]at this
    omega
   cases ck with
   | int k=>exact bA k cw hb
   | bool=>
    unfold bS.cells zu;exact List.map_congr_left fun j hj=>by rw [hb j (adZ.1 hj)]
   | val v=>simp only [bS.cells,Eb]
   | ptr=>
    unfold bS.cells xx;exact List.map_congr_left fun j hj=>by rw [hb j (adZ.1 hj)]
   | cC=>rfl
   | str=>exact absurd rfl Sb
   | cv=>
    simp only [bS.cells,gX];exact List.map_congr_left fun j hj=>by rw [hb j (adZ.1 hj)]
   | qV l=>exact absurd rfl (Sa l l rfl)
  ·split at h
   ·rename_i hk;rw [adw]at h;obtain⟨z,hz,rfl⟩:=h;have ih:=hO Eb N hn hz (fun x hx=>hl x (adB _ hx)) i hi;have h1:=hl _ ady;simp only [adT,List.flatMap_cons,ih];congr 1;obtain⟨ck,cw,ca⟩:=a;obtain⟨O9,Xo,N8⟩:=b;obtain⟨e0,e1,e2⟩:=hk;simp only at e0 e1 e2 h1;subst e0 e1 e2;simp only [eX.holds,fl,E.den]at h1;simp only [bS.cells,gX];refine List.map_congr_left fun j hj=>?_
    rw [h1 _ ?_,Lp];have kz:=adZ.1 hj;rw [toNat_mul,hn];have:i*cw+cw≤N*cw:=by
     have:=Nat.mul_le_mul_right cw (show i+1≤N by omega)
     rwa [Nat.add_mul,Nat.one_mul]at this
    omega
   ·cases h
theorem m5(Eb:ρ.va=bE.va): ∀{pat act:List bS} {l:List eX},jC pat act=some l→kD ρ bE l→pat.map (bS.cells ρ)=act.map (bS.cells bE)
 | [],[],l,h,hl=>rfl
 | [],_::_,l,h,hl=>by simp [jC]at h
 | _::_,[],l,h,hl=>by simp [jC]at h
 | a::r,b::r',l,h,hl=>by
  unfold jC at h;split at h
  ·cases h
  rename_i Sa;split at h
  ·rename_i hk;rw [adw]at h;obtain⟨z,hz,rfl⟩:=h;have ih:=m5 Eb hz (fun x hx=>hl x (adB _ hx));have h1:=hl _ ady;simp only [eX.holds]at h1;rw [adT,adT,ih];congr 1;obtain⟨ck,cw,ca⟩:=a;obtain⟨O9,Xo,N8⟩:=b;obtain⟨e1,e2⟩:=hk;simp only at e1 e2 h1;subst e1 e2;funext i;cases ck with
   | int k=>simp only [bS.cells];rw [show ca.den ρ=N8.den bE from h1]
   | bool=>simp only [bS.cells];rw [show ca.den ρ=N8.den bE from h1]
   | val v=>simp only [bS.cells,Eb]
   | ptr=>simp only [bS.cells];rw [show ca.den ρ=N8.den bE from h1]
   | cC=>rfl
   | str=>simp only [bS.cells];rw [show ca.den ρ=N8.den bE from h1]
   | cv=>simp only [bS.cells];rw [show ca.den ρ=N8.den bE from h1]
   | qV l=>exact absurd rfl (Sa l)
  ·cases h
theorem iU: ∀(f:Nat) (p act:List SV),SV.aB ρ (rj f p act)=SV.aB ρ act
 | 0,_,_=>rfl
 | f+1,p,act=>by
  unfold rj;split
  ·rfl
  ·rename_i k e p f' k' m a r h;cases h;simp only [SV.aB,SV.cells];rw [iU f];split
   ·rename_i hm;subst hm;simp [aj,dL,E.den]
   ·simp only [SV.aB,SV.cells];have:aj k' (m+1) (a.den ρ)=[.int k' (a.den ρ 0)]++aj k' m ((jt a (.lit 1)).den ρ):=by
     unfold aj;rw [List.range_succ_eq_map,adT,List.map_map];simp only [List.singleton_append,adF,true_and];apply List.map_congr_left;intro j _;simp [Function.comp,dC,E.den,Nat.add_comm]
    rw [this,dL];simp [E.den]
  ·rename_i k n e p f' x r h;cases h;split
   ·simp only [SV.aB,iU f]
   ·split
    ·rename_i c d hc hd;split
     ·rename_i kl e' DW;split
      ·rename_i KP;have h1:=(dY (ρ:=ρ) hc).1;have h2:=dJ (ρ:=ρ) _ _ _ hd;have h3:=fS (ρ:=ρ) DW;rw [KP,List.length_replicate,nG]at h3;rw [h3,List.drop_zero]at h1;rw [SV.aB,SV.cells,iU f,h1,h2,List.take_append_drop]
      ·rfl
     ·rfl
    ·rfl
  ·rename_i h;cases h;simp only [SV.aB,iU f]
  ·rfl
theorem qG{z z':List SV}(hz:SV.aB ρ z=SV.aB bE z'): ∀{es Ut:List (Nat×List SV)} {l:List eX},p_ es Ut=some l→kD ρ bE l→
  ((fun i=>o7 es i)=fun i=>o7 Ut i)∧(fun i=>SV.aB ρ (mi es z i))=fun i=>SV.aB bE (mi Ut z' i)
 | [],[],_,_,_=>⟨rfl,funext fun _=>hz⟩
 | [],_::_,_,h,_=>by simp [p_]at h
 | _::_,[],_,h,_=>by simp [p_]at h
 | (i,v)::r,(j,u)::r',l,h,hl=>by
  simp only [p_]at h;split at h
  ·rename_i rk;subst rk;split at h
   ·rename_i x y hx hy;cases h;obtain⟨h4,h5⟩:=hl.app;obtain⟨e1,e2⟩:=qG hz hy h5;have e3:=(c_ hx h4).2;refine⟨funext fun k=>?_,funext fun k=>?_⟩
    ·simp only [o7];rw [show o7 r k=o7 r' k from congrFun e1 k]
    ·simp only [mi];split
     ·exact e3
     ·exact congrFun e2 k
   ·cases h
  ·cases h
theorem qH(Eb:ρ.va=bE.va){x y:Ck}{l:List eX}(h:wA x y=some l)(hl:kD ρ bE l):x.den ρ=y.den bE:=by
 unfold wA at h;split at h
 ·rfl
 ·split at h
  ·rename_i hk;subst hk;rw [adw]at h;obtain⟨z,hz,rfl⟩:=h;have h1:=hl _ ady;simp only [eX.holds]at h1;simp only [Ck.den,h1,(c_ hz fun x hx=>hl x (adB _ hx)).2,iU]
  ·cases h
 ·split at h
  ·rename_i hk;obtain⟨rfl,rfl,rfl⟩:=hk;rw [adw]at h;obtain⟨z,hz,rfl⟩:=h;have h1:=hl _ ady;have h2:=hl _ (adB _ ady);simp only [eX.holds]at h1 h2;have h3:=hO Eb _ rfl hz fun x hx=>hl x (adB _ (adB _ hx))
   simp only [Ck.den,h1,h2];congr 1;unfold aN aK;rw [List.flatMap_def,List.flatMap_def];congr 1;refine List.map_congr_left fun i hi=>h3 i ?_
   rw [h2];exact adZ.1 hi
  ·cases h
 ·cases h;have:=hl _ ady;exact this
 ·split at h
  ·rename_i hk;obtain⟨rfl,rfl⟩:=hk;cases h;have h1:=hl _ ady;have h2:=hl _ (adB _ ady);simp only [eX.holds]at h1 h2;simp only [Ck.den,h1,h2]
  ·cases h
 ·cases h;have:=hl _ ady;simp only [eX.holds]at this;simp only [Ck.den,this]
 ·cases h;have:=hl _ ady;simp only [eX.holds]at this;simp only [Ck.den,this]
 ·split at h
  ·rename_i hk;obtain⟨rfl,rfl,rfl⟩:=hk;split at h
   ·rename_i x y hx hy;cases h;have h1:=hl _ ady;have h2:=hl _ (adB _ ady);simp only [eX.holds]at h1 h2;have h3:kD ρ bE (x++y):=fun q hq=>hl q (adB _ (adB _ hq))
    obtain⟨h4,h5⟩:=h3.app;simp only [Ck.den,h1,h2,(c_ hx h4).2,m5 Eb hy h5]
   ·cases h
  ·cases h
 ·split at h
  ·rename_i hk;obtain⟨rfl,rfl,rfl⟩:=hk;split at h
   ·rename_i x y hx hy;cases h;have h1:=hl _ ady;simp only [eX.holds]at h1;have h3:kD ρ bE (x++y):=fun q hq=>hl q (adB _ hq)
    obtain⟨h4,h5⟩:=h3.app;obtain⟨e1,e2⟩:=qG (c_ hx h4).2 hy h5;rw [Ck.jX,Ck.jX,h1,(c_ hx h4).2,e1,e2]
   ·cases h
  ·cases h
 ·split at h
  ·rename_i hk;obtain⟨rfl,rfl⟩:=hk;cases h;have h1:=hl _ ady;have h2:=hl _ (adB _ ady);have h3:=hl _ (adB _ (adB _ ady));simp only [eX.holds]at h1 h2 h3;simp only [Ck.den,h1];congr 1;rw [←h2];exact bA _ _ h3
  ·cases h
 ·split at h
  ·rename_i hk;obtain⟨rfl,rfl⟩:=hk;cases h;have h1:=hl _ ady;simp only [eX.holds]at h1;simp only [Ck.den,h1]
  ·cases h
 ·cases h
theorem qI(Eb:ρ.va=bE.va): ∀{pat act:List Ck} {l:List eX},lP pat act=some l→kD ρ bE l→
  ∃more,act.map (Ck.den bE)=pat.map (Ck.den ρ)++more
 | [],act,l,h,hl=>⟨_,rfl⟩
 | a::r,[],l,h,hl=>by simp [lP]at h
 | a::r,b::r',l,h,hl=>by
  unfold lP at h;split at h
  ·rename_i p q hp hq;cases h;obtain⟨h1,h2⟩:=hl.app;obtain⟨m,hm⟩:=qI Eb hq h2;exact⟨m,by simp only [adT,List.cons_append,hm,qH Eb hp h1]⟩
  ·cases h
end
end Go.RX
