/- A reflective symbolic executor, part 17: what is in scope does not change when names are added. -/
import Derived.Test.YtfnaoeleljhmhaaGreatRxP
import Derived.Test.YtfnaoeleljhmhaaGreatM03

namespace Go.RX
structure Agree (c:Cnt) (ρ ρ':Env):Prop where
 b: ∀i,i<c.b→ρ.bv.getD i 0=ρ'.bv.getD i 0
 v: ∀i,i<c.v→ρ.vv.getD i V1.nil=ρ'.vv.getD i V1.nil
 i: ∀i,i<c.i→ρ.iv.getD i 0=ρ'.iv.getD i 0
 a: ∀i,i<c.a→ρ.av.getD i (fun _=>0)=ρ'.av.getD i (fun _=>0)
 bo: ∀i,i<c.bo→ρ.bo.getD i false=ρ'.bo.getD i false
 p: ∀i,i<c.p→ρ.pv.getD i HP.emp=ρ'.pv.getD i HP.emp
 r: ∀i,i<c.r→ρ.lr.getD i loop0=ρ'.lr.getD i loop0
 va:ρ.va=ρ'.va
section
variable {c:Cnt} {ρ ρ':Env}
theorem Agree.symm(h:Agree c ρ ρ'):Agree c ρ' ρ:=
 ⟨fun i hi=>(h.b i hi).symm,fun i hi=>(h.v i hi).symm,fun i hi=>(h.i i hi).symm,fun i hi=>(h.a i hi).symm,fun i hi=>(h.bo i hi).symm,fun i hi=>(h.p i hi).symm,fun i hi=>(h.r i hi).symm,h.va.symm⟩
theorem E.sc_den(h:Agree c ρ ρ'){e:E}(hs:e.sc c=true):e.den ρ=e.den ρ':=by
 induction e with
 | lit n=>rfl
 | var i=>simp only [E.sc,Nat.blt_eq]at hs;simp only [E.den,h.i i hs]
 | avar i=>simp only [E.sc,Nat.blt_eq]at hs;simp only [E.den,h.a i hs]
 | sel a i iha ihi=>simp only [E.sc,Bool.and_eq_true]at hs;simp only [E.den,iha hs.1,ihi hs.2]
 | bin o k a b iha ihb=>simp only [E.sc,Bool.and_eq_true]at hs;simp only [E.den,iha hs.1,ihb hs.2]
 | wrap k a ih=>simp only [E.sc]at hs;simp only [E.den,ih hs]
 | upd a i v iha ihi ihv=>simp only [E.sc,Bool.and_eq_true]at hs;simp only [E.den,iha hs.1.1,ihi hs.1.2,ihv hs.2]
 | shift a o iha iho=>simp only [E.sc,Bool.and_eq_true]at hs;simp only [E.den,iha hs.1,iho hs.2]
 | spl a o n b iha iho ihn ihb=>simp only [E.sc,Bool.and_eq_true]at hs;simp only [E.den,iha hs.1.1.1,iho hs.1.1.2,ihn hs.1.2,ihb hs.2]
 | kc n a ih=>simp only [E.sc]at hs;simp only [E.den,ih hs]
 | blk b=>simp only [E.sc,Nat.blt_eq]at hs;simp only [E.den,h.b b hs]
 | rowl l=>rfl
 | at2 a i iha ihi=>simp only [E.sc,Bool.and_eq_true]at hs;simp only [E.den,iha hs.1,ihi hs.2]
 | put2 a i s iha ihi ihs=>simp only [E.sc,Bool.and_eq_true]at hs;simp only [E.den,iha hs.1.1,ihi hs.1.2,ihs hs.2]
 | sby s ih=>simp only [E.sc]at hs;simp only [E.den,ih hs]
 | srow s ih=>simp only [E.sc]at hs;simp only [E.den,ih hs]
 | scd s ih=>simp only [E.sc]at hs;simp only [E.den,ih hs]
theorem BE.sc_den(h:Agree c ρ ρ'){b:BE}(hs:b.sc c=true):b.den ρ=b.den ρ':=by
 induction b with
 | lit n=>rfl
 | var i=>simp only [BE.sc,Nat.blt_eq]at hs;simp only [BE.den,h.bo i hs]
 | eq a b=>simp only [BE.sc,Bool.and_eq_true]at hs;simp only [BE.den,E.sc_den h hs.1,E.sc_den h hs.2]
 | lt a b=>simp only [BE.sc,Bool.and_eq_true]at hs;simp only [BE.den,E.sc_den h hs.1,E.sc_den h hs.2]
 | le a b=>simp only [BE.sc,Bool.and_eq_true]at hs;simp only [BE.den,E.sc_den h hs.1,E.sc_den h hs.2]
 | nz a=>simp only [BE.sc]at hs;simp only [BE.den,E.sc_den h hs]
 | aeq n a b=>simp only [BE.sc,Bool.and_eq_true]at hs;simp only [BE.den,E.sc_den h hs.1,E.sc_den h hs.2]
 | not a ih=>simp only [BE.sc]at hs;simp only [BE.den,ih hs]
 | and a b iha ihb=>simp only [BE.sc,Bool.and_eq_true]at hs;simp only [BE.den,iha hs.1,ihb hs.2]
 | or a b iha ihb=>simp only [BE.sc,Bool.and_eq_true]at hs;simp only [BE.den,iha hs.1,ihb hs.2]
 | ite x t e ihx iht ihe=>simp only [BE.sc,Bool.and_eq_true]at hs;simp only [BE.den,ihx hs.1.1,iht hs.1.2,ihe hs.2]
 | seq a b=>simp only [BE.sc,Bool.and_eq_true]at hs;simp only [BE.den,E.sc_den h hs.1,E.sc_den h hs.2]
 | vnil i=>simp only [BE.sc,Nat.blt_eq]at hs;simp only [BE.den,h.v i hs]
theorem BE.sc_prop(h:Agree c ρ ρ'){b:BE}(hs:b.sc c=true):b.prop ρ↔b.prop ρ':=by
 rw [←BE.den_iff,←BE.den_iff,BE.sc_den h hs]
theorem cuts_sc(h:Agree c ρ ρ')(s:Nat): ∀{cs:List Cut} (v:Value),cs.all (Cut.sc c)=true→subSlices ρ s v cs=subSlices ρ' s v cs
 | [],_,_=>rfl
 | k::r,v,hs=>by
  simp only [List.all_cons,Bool.and_eq_true,Cut.sc]at hs;obtain⟨⟨⟨h1,h2⟩,h3⟩,h4⟩:=hs;have hm:(k.mx.map fun m=>(m.den ρ 0).toNat)=k.mx.map fun m=>(m.den ρ' 0).toNat:=by
   cases hk:k.mx with
   | none=>rfl
   | some m=>
    rw [hk]at h3;simp only [Option.map_some,E.sc_den h h3]
  simp only [subSlices,E.sc_den h h1,E.sc_den h h2,hm];exact cuts_sc h s _ h4
mutual
theorem SV.sc_val(h:Agree c ρ ρ'): ∀{v:SV},v.sc c=true→v.val ρ=v.val ρ'∧v.cells ρ=v.cells ρ'
 | .int k e,hs=>by simp only [SV.sc]at hs;simp only [SV.val,SV.cells,E.sc_den h hs,and_self]
 | .bool b,hs=>by simp only [SV.sc]at hs;simp only [SV.val,SV.cells,BE.sc_den h hs,and_self]
 | .nilp,_=>⟨rfl,rfl⟩
 | .nils,_=>⟨rfl,rfl⟩
 | .nilf,_=>⟨rfl,rfl⟩
 | .nili,_=>⟨rfl,rfl⟩
 | .nilm,_=>⟨rfl,rfl⟩
 | .undef,_=>⟨rfl,rfl⟩
 | .ptr b n,hs=>by simp only [SV.sc,Nat.blt_eq]at hs;simp only [SV.val,SV.cells,h.b b hs,and_self]
 | .ptri b i s n,hs=>by simp only [SV.sc,Nat.blt_eq,Bool.and_eq_true]at hs;simp only [SV.val,SV.cells,h.b b hs.1,E.sc_den h hs.2,and_self]
 | .pv v i s n,hs=>by simp only [SV.sc,Nat.blt_eq,Bool.and_eq_true]at hs;simp only [SV.val,SV.cells,h.v v hs.1,E.sc_den h hs.2,and_self]
 | .sl b i s n m,hs=>by simp only [SV.sc,Nat.blt_eq,Bool.and_eq_true]at hs;simp only [SV.val,SV.cells,h.b b hs.1.1.1,E.sc_den h hs.1.1.2,E.sc_den h hs.1.2,E.sc_den h hs.2,and_self]
 | .vv i,hs=>by simp only [SV.sc,Nat.blt_eq]at hs;simp only [SV.val,SV.cells,h.v i hs,and_self]
 | .str l,_=>⟨rfl,rfl⟩
 | .fn f caps,hs=>by simp only [SV.sc]at hs;simp only [SV.val,SV.cells,(SV.scL_val h hs).1,and_self]
 | .fm f caps,hs=>by simp only [SV.sc]at hs;simp only [SV.val,SV.cells,(SV.scL_val h hs).1,and_self]
 | .fmi n t l k,hs=>by simp only [SV.sc,Nat.blt_eq]at hs;simp only [SV.val,SV.cells,h.b l hs,and_self]
 | .agg cs,hs=>by simp only [SV.sc]at hs;simp only [SV.val,SV.cells,(SV.scL_val h hs).2,and_self]
 | .seg k n a,hs=>by simp only [SV.sc]at hs;simp only [SV.val,SV.cells,E.sc_den h hs,and_self]
 | .tup vs,hs=>by simp only [SV.sc]at hs;simp only [SV.val,SV.cells,(SV.scL_val h hs).1,and_self]
 | .opt b v,hs=>by simp only [SV.sc,Bool.and_eq_true]at hs;simp only [SV.val,SV.cells,BE.sc_den h hs.1,(SV.sc_val h hs.2).1,and_self]
 | .vsel a i,hs=>by simp only [SV.sc]at hs;simp only [SV.val,SV.cells,E.sc_den h hs,h.va,and_self]
 | .yld l,hs=>by simp only [SV.sc,Nat.blt_eq]at hs;simp only [SV.val,SV.cells,h.b l hs,and_self]
 | .mp l,hs=>by simp only [SV.sc,Nat.blt_eq]at hs;simp only [SV.val,SV.cells,h.b l hs,and_self]
 | .ptrE e,hs=>by simp only [SV.sc]at hs;simp only [SV.val,SV.cells,E.sc_den h hs,and_self]
 | .cvE e,hs=>by simp only [SV.sc]at hs;simp only [SV.val,SV.cells,E.sc_den h hs,and_self]
 | .strE e,hs=>by simp only [SV.sc]at hs;simp only [SV.val,SV.cells,E.sc_den h hs,and_self]
 | .ifl t k e,hs=>by simp only [SV.sc]at hs;simp only [SV.val,SV.cells,E.sc_den h hs,and_self]
 | .ifp t l k,hs=>by simp only [SV.sc,Nat.blt_eq]at hs;simp only [SV.val,SV.cells,h.b l hs,and_self]
 | .asl v i s c' n,hs=>by simp only [SV.sc,Bool.and_eq_true,Nat.blt_eq]at hs;simp only [SV.val,SV.cells,h.v v hs.1,E.sc_den h hs.2,and_self]
 | .ifv b v,hs=>by simp only [SV.sc,Bool.and_eq_true,Nat.blt_eq]at hs;simp only [SV.val,SV.cells,BE.sc_den h hs.1,h.v v hs.2,and_self]
 | .vsub v cs s,hs=>by simp only [SV.sc,Nat.blt_eq,Bool.and_eq_true]at hs;simp only [SV.val,SV.cells,h.v v hs.1,cuts_sc h s _ hs.2,and_self]
theorem SV.scL_val(h:Agree c ρ ρ'): ∀{l:List SV},SV.scL c l=true→SV.vals ρ l=SV.vals ρ' l∧SV.cellsL ρ l=SV.cellsL ρ' l
 | [],_=>⟨rfl,rfl⟩
 | v::r,hs=>by
  simp only [SV.scL,Bool.and_eq_true]at hs;simp only [SV.vals,SV.cellsL,(SV.sc_val h hs.1).1,(SV.sc_val h hs.1).2,(SV.scL_val h hs.2).1,(SV.scL_val h hs.2).2,and_self]
end
theorem Col.sc_cells(h:Agree c ρ ρ'){k:Col}(hs:k.sc c=true):k.cells ρ=k.cells ρ':=by
 obtain⟨ck,w,a⟩:=k;simp only [Col.sc,Bool.and_eq_true]at hs;have:=E.sc_den h hs.1;funext i;cases ck with
 | int q=>simp only [Col.cells];rw [show a.den ρ=a.den ρ' from this]
 | bool=>simp only [Col.cells];rw [show a.den ρ=a.den ρ' from this]
 | val v=>simp only [Col.cells,h.va]
 | ptr=>simp only [Col.cells];rw [show a.den ρ=a.den ρ' from this]
 | nils=>rfl
 | str=>simp only [Col.cells];rw [show a.den ρ=a.den ρ' from this]
 | cv=>simp only [Col.cells];rw [show a.den ρ=a.den ρ' from this]
 | sv=>simp only [Col.cells];rw [show a.den ρ=a.den ρ' from this]
 | ix v=>simp only [Col.cells,h.va];rw [show a.den ρ=a.den ρ' from this]
 | vls l=>
  simp only [Col.cells,colV];refine List.map_congr_left fun j _=>?_
  cases hj:l[i*w+j]? with
  | none=>rfl
  | some n=>
   have:=List.all_eq_true.1 hs.2 n (List.mem_of_getElem? hj);simp only [Nat.blt_eq]at this;simp only [Option.elim,h.v n this]
 | pt q v=>
  have hq:=hs.2;simp only [CK.sc,Bool.and_eq_true,Nat.blt_eq]at hq;simp only [Col.cells,colV];rw [show a.den ρ=a.den ρ' from this,show q.den ρ=q.den ρ' from E.sc_den h hq.1,h.v v hq.2]
theorem cols_sc(h:Agree c ρ ρ'){cols:List Col}(hs:cols.all (Col.sc c)=true)(n:Nat):tabCells ρ n cols=tabCells ρ' n cols:=by
 unfold tabCells;congr 1;exact List.map_congr_left fun k hk=>Col.sc_cells h (List.all_eq_true.1 hs k hk)
theorem rowL_sc{c:Cnt}{z:List SV}(hz:SV.scL c z=true): ∀{es:List (Nat×List SV)},(es.all fun e=>SV.scL c e.2)=true→∀i,SV.scL c (rowL es z i)=true
 | [],_,_=>hz
 | (k,v)::r,h,i=>by
  simp only [List.all_cons,Bool.and_eq_true]at h;unfold rowL;split
  ·exact h.1
  ·exact rowL_sc hz h.2 i
theorem Ck.sc_den(h:Agree c ρ ρ'){ck:Ck}(hs:ck.sc c=true):ck.den ρ=ck.den ρ':=by
 cases ck with
 | emp=>rfl
 | row b w cs=>simp only [Ck.sc,Bool.and_eq_true,Nat.blt_eq]at hs;simp only [Ck.den,h.b b hs.1,(SV.scL_val h hs.2).2]
 | sli md v t s n cols=>simp only [Ck.sc,Bool.and_eq_true,Nat.blt_eq]at hs;simp only [Ck.den,h.v v hs.1.1,E.sc_den h hs.1.2,cols_sc h hs.2]
 | abs i=>simp only [Ck.sc,Nat.blt_eq]at hs;simp only [Ck.den,h.p i hs]
 | lrec l r s j=>simp only [Ck.sc,Bool.and_eq_true,Nat.blt_eq]at hs;simp only [Ck.den,h.b l hs.1,h.r r hs.2]
 | dfr b=>simp only [Ck.sc,Nat.blt_eq]at hs;simp only [Ck.den,h.b b hs]
 | dfrs b=>simp only [Ck.sc,Nat.blt_eq]at hs;simp only [Ck.den,h.b b hs]
 | map b kl ka va z has cols=>
  simp only [Ck.sc,Bool.and_eq_true,Nat.blt_eq]at hs;have hc:cols.map (Col.cells ρ)=cols.map (Col.cells ρ'):=List.map_congr_left fun k hk=>Col.sc_cells h (List.all_eq_true.1 hs.2 k hk)
  simp only [Ck.den,h.b b hs.1.1.1,(SV.scL_val h hs.1.1.2).2,E.sc_den h hs.1.2,hc]
 | sit b l p=>simp only [Ck.sc,Nat.blt_eq]at hs;simp only [Ck.den,h.b b hs]
 | mit b m=>simp only [Ck.sc,Bool.and_eq_true,Nat.blt_eq]at hs;simp only [Ck.den,h.b b hs.1,h.b m hs.2]
 | bld b t e n a=>simp only [Ck.sc,Bool.and_eq_true,Nat.blt_eq]at hs;simp only [Ck.den,h.b b hs.1.1,E.sc_den h hs.1.2,E.sc_den h hs.2]
 | mapl b kl ka va z es=>
  simp only [Ck.sc,Bool.and_eq_true,Nat.blt_eq]at hs;have hr:(fun i=>SV.cellsL ρ (rowL es z i))=fun i=>SV.cellsL ρ' (rowL es z i):=funext fun i=>(SV.scL_val h (rowL_sc hs.1.2 hs.2 i)).2
  rw [Ck.den_mapl,Ck.den_mapl,h.b b hs.1.1,(SV.scL_val h hs.1.2).2,hr]
theorem Cks_sc(h:Agree c ρ ρ'){hp:List Ck}(hs:hp.all (Ck.sc c)=true):hp.map (Ck.den ρ)=hp.map (Ck.den ρ'):=
 List.map_congr_left fun k hk=>Ck.sc_den h (List.all_eq_true.1 hs k hk)
end
structure Lens (ρ:Env) (c:Cnt):Prop where
 b:ρ.bv.length=c.b
 v:ρ.vv.length=c.v
 i:ρ.iv.length=c.i
 a:ρ.av.length=c.a
 bo:ρ.bo.length=c.bo
 p:ρ.pv.length=c.p
 r:ρ.lr.length=c.r
structure Ext.Fits (e:Ext) (c:Cnt):Prop where
 b:e.b.length=c.b
 v:e.v.length=c.v
 i:e.i.length=c.i
 a:e.a.length=c.a
 bo:e.bo.length=c.bo
 p:e.p.length=c.p
 r:e.r.length=c.r
def Env.Le(ρ ρ':Env):Prop:= ∃x:Ext,ρ'=ρ.ext x
def Ext.zero:Ext:=⟨[],[],[],[],[],[],[]⟩
theorem Env.ext_zero(ρ:Env):ρ.ext Ext.zero=ρ:=by simp [Env.ext,Ext.zero]
theorem Env.Le.refl(ρ:Env):Env.Le ρ ρ:=⟨Ext.zero,(Env.ext_zero ρ).symm⟩
theorem Env.Le.trans{a b c:Env}(h:Env.Le a b)(k:Env.Le b c):Env.Le a c:=by
 obtain⟨x,rfl⟩:=h;obtain⟨y,rfl⟩:=k;exact⟨⟨x.b++y.b,x.v++y.v,x.i++y.i,x.a++y.a,x.bo++y.bo,x.p++y.p,x.r++y.r⟩,by simp [Env.ext]⟩
theorem Env.le_ext(ρ:Env)(e:Ext):Env.Le ρ (ρ.ext e):=⟨e,rfl⟩
theorem Env.addB_eq(ρ:Env)(b:Nat):ρ.addB b=ρ.ext ⟨[b],[],[],[],[],[],[]⟩:=by simp [Env.ext,Env.addB]
theorem Env.addV_eq(ρ:Env)(v:V1):ρ.addV v=ρ.ext ⟨[],[v],[],[],[],[],[]⟩:=by simp [Env.ext,Env.addV]
theorem getD_app{α:Type}(l m:List α)(d:α)(i:Nat)(h:i<l.length):l.getD i d=(l++m).getD i d:=by
 rw [List.getD_eq_getElem?_getD,List.getD_eq_getElem?_getD,List.getElem?_append_left h]
theorem Env.Le.agree{ρ ρ':Env}{c:Cnt}(hl:Lens ρ c)(h:Env.Le ρ ρ'):Agree c ρ ρ':=by
 obtain⟨x,rfl⟩:=h;exact⟨fun i hi=>getD_app _ _ _ i (by rw [hl.b];exact hi),fun i hi=>getD_app _ _ _ i (by rw [hl.v];exact hi),fun i hi=>getD_app _ _ _ i (by rw [hl.i];exact hi),
  fun i hi=>getD_app _ _ _ i (by rw [hl.a];exact hi),fun i hi=>getD_app _ _ _ i (by rw [hl.bo];exact hi),fun i hi=>getD_app _ _ _ i (by rw [hl.p];exact hi),fun i hi=>getD_app _ _ _ i (by rw [hl.r];exact hi),rfl⟩
theorem Lens.ext{ρ:Env}{c d:Cnt}{e:Ext}(h:Lens ρ c)(k:e.Fits d):Lens (ρ.ext e) (c.add d):=
 ⟨by simp [Env.ext,Cnt.add,h.b,k.b],by simp [Env.ext,Cnt.add,h.v,k.v],by simp [Env.ext,Cnt.add,h.i,k.i],by simp [Env.ext,Cnt.add,h.a,k.a],by simp [Env.ext,Cnt.add,h.bo,k.bo],by simp [Env.ext,Cnt.add,h.p,k.p],by simp [Env.ext,Cnt.add,h.r,k.r]⟩
theorem Env.Le.take{ρ ρ':Env}{c:Cnt}(hl:Lens ρ c)(h:Env.Le ρ ρ'):ρ'.take c=ρ:=by
 obtain⟨x,rfl⟩:=h;obtain⟨h1,h2,h3,h4,h5,h6,h7⟩:=hl;simp [Env.take,Env.ext,←h1,←h2,←h3,←h4,←h5,←h6,←h7]
theorem exN_iff{α:Type}: ∀(n:Nat) (f:List α→Prop),exN n f↔∃l,l.length=n∧f l
 | 0,f=>by
  simp only [exN];constructor
  ·intro h;exact⟨[],rfl,h⟩
  ·rintro ⟨l,hl,h⟩;rw [List.length_eq_zero_iff]at hl;subst hl;exact h
 | n+1,f=>by
  simp only [exN];constructor
  ·rintro ⟨x,h⟩;obtain⟨l,hl,h⟩:=(exN_iff n _).1 h;exact⟨x::l,by simp [hl],h⟩
  ·rintro ⟨l,hl,h⟩;cases l with
   | nil=>cases hl
   | cons x l=>exact⟨x,(exN_iff n _).2 ⟨l,by simpa using hl,h⟩⟩
theorem allN_iff{α:Type}: ∀(n:Nat) (f:List α→Prop),allN n f↔∀l,l.length=n→f l
 | 0,f=>by
  simp only [allN];constructor
  ·intro h l hl;rw [List.length_eq_zero_iff]at hl;subst hl;exact h
  ·intro h;exact h [] rfl
 | n+1,f=>by
  simp only [allN];constructor
  ·intro h l hl;cases l with
   | nil=>cases hl
   | cons x l=>exact(allN_iff n _).1 (h x) l (by simpa using hl)
  ·intro h x;exact(allN_iff n _).2 fun l hl=>h (x::l) (by simp [hl])
theorem exExt_iff(c:Cnt)(f:Ext→Prop):exExt c f↔∃e,e.Fits c∧f e:=by
 simp only [exExt,exN_iff];constructor
 ·rintro ⟨b,hb,v,hv,i,hi,a,ha,bo,hbo,p,hp,r,hr,h⟩;exact⟨⟨b,v,i,a,bo,p,r⟩,⟨hb,hv,hi,ha,hbo,hp,hr⟩,h⟩
 ·rintro ⟨⟨b,v,i,a,bo,p,r⟩,⟨hb,hv,hi,ha,hbo,hp,hr⟩,h⟩;exact⟨b,hb,v,hv,i,hi,a,ha,bo,hbo,p,hp,r,hr,h⟩
theorem allExt_iff(c:Cnt)(f:Ext→Prop):allExt c f↔∀e,e.Fits c→f e:=by
 simp only [allExt,allN_iff];constructor
 ·rintro h ⟨b,v,i,a,bo,p,r⟩ ⟨hb,hv,hi,ha,hbo,hp,hr⟩;exact h b hb v hv i hi a ha bo hbo p hp r hr
 ·intro h b hb v hv i hi a ha bo hbo p hp r hr;exact h ⟨b,v,i,a,bo,p,r⟩ ⟨hb,hv,hi,ha,hbo,hp,hr⟩
end Go.RX
