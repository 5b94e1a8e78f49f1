/- A reflective symbolic executor, part 5: contracts, and what a formula says. · A reflective symbolic executor, part 6: the makers and rows mean what they should. -/
import Derived.Test.YtfnaoeleljhmhaaGreatRxD

namespace Go.RX
def Meets(P:Program)(f:Nat)(args:List Value)(pre:List HP)(post:Value→List HP→Prop):Prop:=
 ∀(w:World) (Fs:List HP),Owns (pre++Fs) w→
  Calls P f args.toArray w fun e w'=> ∃v hs,e= .returned v∧post v hs∧Owns (hs++Fs) w'∧Same w w'
def MeetsE(P:Program)(f:Nat)(args:List Value)(pre:List HP)(post:Value→List HP→Prop):Prop:=
 ∀(w:World) (Fs:List HP),Owns (pre++Fs) w→
  ∃v hs w',(callFunc f args.toArray).run P w= .ok (.value v) w'∧post v hs∧Owns (hs++Fs) w'∧Same w w'
structure Ext where
 b:List Nat
 v:List V1
 i:List Int
 a:List (Nat→Int)
 bo:List Bool
 p:List HP
 r:List Loop
def allN{α:Type}:Nat→(List α→Prop)→Prop
 | 0,f=>f []
 | n+1,f=> ∀x,allN n fun xs=>f (x::xs)
def exN{α:Type}:Nat→(List α→Prop)→Prop
 | 0,f=>f []
 | n+1,f=> ∃x,exN n fun xs=>f (x::xs)
def allExt(c:Cnt)(f:Ext→Prop):Prop:=
 allN c.b fun b=>allN c.v fun v=>allN c.i fun i=>allN c.a fun a=>allN c.bo fun bo=>allN c.p fun p=>allN c.r fun r=>f ⟨b,v,i,a,bo,p,r⟩
def exExt(c:Cnt)(f:Ext→Prop):Prop:=
 exN c.b fun b=>exN c.v fun v=>exN c.i fun i=>exN c.a fun a=>exN c.bo fun bo=>exN c.p fun p=>exN c.r fun r=>f ⟨b,v,i,a,bo,p,r⟩
def Env.ext(ρ:Env)(x:Ext):Env:=
 {ρ with bv:=ρ.bv++x.b,vv:=ρ.vv++x.v,iv:=ρ.iv++x.i,av:=ρ.av++x.a,bo:=ρ.bo++x.bo,pv:=ρ.pv++x.p,lr:=ρ.lr++x.r}
def Env.take(ρ:Env)(c:Cnt):Env:=
 {ρ with bv:=ρ.bv.take c.b,vv:=ρ.vv.take c.v,iv:=ρ.iv.take c.i,av:=ρ.av.take c.a,bo:=ρ.bo.take c.bo,pv:=ρ.pv.take c.p,lr:=ρ.lr.take c.r}
def Env.addB(ρ:Env)(b:Nat):Env:={ρ with bv:=ρ.bv++[b]}
def Env.addV(ρ:Env)(v:V1):Env:={ρ with vv:=ρ.vv++[v]}
def Eq2.holds(ρ ρ':Env):Eq2→Prop
 | .e x y=>x.den ρ 0=y.den ρ' 0
 | .a n x y=> ∀j,j<(n.den ρ 0).toNat→x.den ρ j=y.den ρ' j
 | .b x y=>x.den ρ=y.den ρ'
 | .af x y=>x.den ρ=y.den ρ'
 | .v i j=>ρ.vv.getD i V1.nil=ρ'.vv.getD j V1.nil
 | .p i j=>ρ.pv.getD i HP.emp=ρ'.pv.getD j HP.emp
 | .bl i j=>ρ.bv.getD i 0=ρ'.bv.getD j 0
 | .rc i j=>ρ.lr.getD i loop0=ρ'.lr.getD j loop0
def Eqs(ρ ρ':Env):List Eq2→Prop→Prop
 | [],q=>q
 | x::r,q=>x.holds ρ ρ'∧Eqs ρ ρ' r q
structure LC where
 I:Ext→Prop
 μ:Ext→Nat
 cur:Ext
def LC.none:LC:=⟨fun _=>False,fun _=>0,⟨[],[],[],[],[],[],[]⟩⟩
def setL(L:Nat→LC)(i:Nat)(l:LC):Nat→LC:=fun j=>if j=i then l else L j
def Need(b r:Prop):Prop:=b∧(b→r)
def Fork(c t e:Prop):Prop:=(c→t)∧(¬c→e)
def VC(P:Program)(Post:Value→List HP→Prop):F→Env→(Nat→LC)→Prop
 | .fail _ _,_,_=>False
 | .vc b r,ρ,L=>Need (b.prop ρ) (VC P Post r ρ L)
 | .fork c t e,ρ,L=>Fork (c.prop ρ) (VC P Post t ρ L) (VC P Post e ρ L)
 | .ret v hp,ρ,_=>Post (v.val ρ) (hp.map (Ck.den ρ))
 | .allB r,ρ,L=> ∀b,VC P Post r (ρ.addB b) L
 | .allV r,ρ,L=> ∀v,VC P Post r (ρ.addV v) L
 | .allRec true r,ρ,L=> ∀d l c,VC P Post r (ρ.ext ⟨[d,l],[],[],[],[],[],[c]⟩) L
 | .allRec false r,ρ,L=> ∀l c,VC P Post r (ρ.ext ⟨[l],[],[],[],[],[],[c]⟩) L
 | .nilV r,ρ,L=>VC P Post r (ρ.addV ⟨.slice none 0 0,rfl⟩) L
 | .call f args use inc v new r,ρ,L=>
  ∃post,Meets P f (SV.vals ρ args) (use.map (Ck.den ρ)) post∧
   ∀x hs,post x hs→exExt inc fun e=>x=v.val (ρ.ext e)∧hs=new.map (Ck.den (ρ.ext e))∧VC P Post r (ρ.ext e) L
 | .ext f args use inc v new r,ρ,L=>
  ∃post,MeetsE P f (SV.vals ρ args) (use.map (Ck.den ρ)) post∧
   ∀x hs,post x hs→exExt inc fun e=>x=v.val (ρ.ext e)∧hs=new.map (Ck.den (ρ.ext e))∧VC P Post r (ρ.ext e) L
 | .loop up inc eqs body,ρ,L=>
  ∃(I:Ext→Prop) (μ:Ext→Nat),(exExt inc fun e=>Eqs (ρ.ext e) ρ eqs (I e))∧
   allExt inc fun e=>I e→VC P Post body (ρ.ext e) (setL L up ⟨I,μ,e⟩)
 | .back up c0 inc eqs,ρ,L=>
  exExt inc fun e=>Eqs ((ρ.take c0).ext e) ρ eqs ((L up).I e∧(L up).μ e<(L up).μ (L up).cur)
 | .join up inc body r,ρ,L=>
  ∃I:Ext→Prop,VC P Post body ρ (setL L up ⟨I,fun _=>0,⟨[],[],[],[],[],[],[]⟩⟩)∧allExt inc fun e=>I e→VC P Post r (ρ.ext e) L
 | .meet up c0 inc eqs,ρ,L=>
  exExt inc fun e=>Eqs ((ρ.take c0).ext e) ρ eqs ((L up).I e)
 | .both a b,ρ,L=>VC P Post a ρ L∧VC P Post b ρ L
 | .ghost use inc eqs new r,ρ,L=>
  ∃I:Ext→Prop,(∀w Fs,Owns (use.map (Ck.den ρ)++Fs) w→exExt inc fun e=>Eqs (ρ.ext e) ρ eqs (Owns (new.map (Ck.den (ρ.ext e))++Fs) w∧I e))∧
   allExt inc fun e=>I e→VC P Post r (ρ.ext e) L
def updF(f:Nat→Int)(i:Nat)(v:Int):Nat→Int:=fun j=>if j=i then v else f j
def rowLF(l:List Int):Nat→Int:=fun j=>l.getD j 0
def shiftF(f:Nat→Int)(o:Nat):Nat→Int:=fun j=>f (o+j)
def splF(f:Nat→Int)(o n:Nat)(g:Nat→Int):Nat→Int:=fun j=>if o≤j∧j<o+n then g (j - o)else f j
end Go.RX

namespace Go.RX
section
variable (ρ:Env)
theorem eAdd_den(a b:E):(eAdd a b).den ρ 0=a.den ρ 0+b.den ρ 0:=by
 unfold eAdd;split<;>simp_all [E.den,iop]
theorem eSub_den(a b:E):(eSub a b).den ρ 0=a.den ρ 0 - b.den ρ 0:=by
 unfold eSub;split<;>simp_all [E.den,iop]
theorem eMul_den(a b:E):(eMul a b).den ρ 0=a.den ρ 0*b.den ρ 0:=by
 unfold eMul;split<;>simp_all [E.den,iop]
theorem eShift_den(a o:E)(j:Nat):(eShift a o).den ρ j=a.den ρ ((o.den ρ 0).toNat+j):=by
 unfold eShift;split<;>simp_all [E.den]
theorem scalOf_den(v:E)(j:Nat):(scalOf v).den ρ j=v.den ρ 0:=by
 unfold scalOf;split
 ·rename_i h;cases v<;>first | rfl | (simp [E.scal]at h;done)
 ·simp [E.den]
theorem eSel_den(a i:E)(j:Nat):(eSel a i).den ρ j=a.den ρ (i.den ρ 0).toNat:=by
 induction a generalizing i j with
 | lit n=>unfold eSel;rfl
 | upd b i' v ihb _ ihv=>
  unfold eSel;split
  ·rename_i h;cases h
  ·rename_i h;cases h
  ·rename_i jj ii h;cases h;split
   ·rename_i he;simp only [E.den,he,if_true];exact scalOf_den ρ v j
   ·rename_i he;rw [ihb];exact(if_neg he).symm
  ·rename_i h;cases h
  ·rename_i h;cases h
  ·rename_i heq _;cases heq;split
   ·rename_i he;subst he;simp only [E.den,if_true];exact scalOf_den ρ _ j
   ·rfl
  ·rfl
 | shift b o ihb _=>
  unfold eSel;split
  ·rename_i h;cases h
  ·rename_i h;cases h
  ·rename_i h;cases h
  ·rename_i h;cases h;rw [ihb];simp only [E.den,Int.toNat_natCast]
  ·rename_i h;cases h
  ·rename_i heq _;cases heq
  ·rfl
 | spl b o n x ihb _ _ ihx=>
  unfold eSel;split
  ·rename_i h;cases h
  ·rename_i h;cases h
  ·rename_i h;cases h
  ·rename_i h;cases h
  ·rename_i h;cases h;split
   ·rename_i hc;rw [ihx];simp only [E.den,Int.toNat_natCast];exact(if_pos hc).symm
   ·rename_i hc;rw [ihb];exact(if_neg hc).symm
  ·rename_i heq _;cases heq
  ·rfl
 | var n=>unfold eSel;rfl
 | avar n=>unfold eSel;rfl
 | sel a b _ _=>unfold eSel;rfl
 | bin o k a b _ _=>unfold eSel;rfl
 | wrap k a _=>unfold eSel;rfl
 | kc n a _=>unfold eSel;rfl
 | blk b=>unfold eSel;rfl
 | at2 a i _ _=>unfold eSel;rfl
 | put2 a i s _ _ _=>unfold eSel;rfl
 | sby s _=>unfold eSel;rfl
 | srow s _=>unfold eSel;rfl
 | scd s _=>unfold eSel;rfl
 | rowl l=>
  unfold eSel;split
  ·rename_i h;cases h
  ·rename_i h;cases h;rfl
  ·rename_i h;cases h
  ·rename_i h;cases h
  ·rename_i h;cases h
  ·rename_i h _;cases h
  ·rfl
theorem den_lit(n:Int)(j:Nat):(E.lit n).den ρ j=n:=rfl
theorem den_upd(a i v:E)(j:Nat):(E.upd a i v).den ρ j=if j=(i.den ρ 0).toNat then v.den ρ 0 else a.den ρ j:=rfl
theorem den_spl(a o n b:E)(j:Nat):(E.spl a o n b).den ρ j=if(o.den ρ 0).toNat≤j∧j<(o.den ρ 0).toNat+(n.den ρ 0).toNat then b.den ρ (j - (o.den ρ 0).toNat)else a.den ρ j:=rfl
theorem den_put2(a i s:E):(E.put2 a i s).den ρ=put2F (a.den ρ) (i.den ρ 0).toNat (s.den ρ):=rfl
theorem den_at2(a i:E):(E.at2 a i).den ρ=at2F (a.den ρ) (i.den ρ 0).toNat:=rfl
theorem eAt2_den'(a i:E)(k:Nat):(eAt2 a i).den ρ k=at2F (a.den ρ) (i.den ρ 0).toNat k:=by
 induction a generalizing k with
 | put2 a jj s iha ihj ihs=>
  rw [den_put2,at2_put2];unfold eAt2;split
  ·rename_i heq;cases heq
  ·rename_i heq;cases heq;split
   ·rename_i he;rw [den_lit,den_lit,if_pos he]
   ·rename_i he;rw [iha,den_lit,den_lit,if_neg he]
  ·rename_i heq _;cases heq;split
   ·rename_i he;subst he;rw [if_pos rfl]
   ·rw [den_at2,den_put2,at2_put2]
  ·rw [den_at2,den_put2,at2_put2]
 | lit n=>unfold eAt2;rfl
 | _=>unfold eAt2;rfl
theorem eAt2_den(a i:E):(eAt2 a i).den ρ=at2F (a.den ρ) (i.den ρ 0).toNat:=funext (eAt2_den' ρ a i)
theorem rowB_den(l:List UInt8):(rowB l).den ρ=rowS l:=by
 funext j;cases j with
 | zero=>simp [rowB,E.den,rowS]
 | succ j=>
  simp only [rowB,E.den,rowS,List.getD_cons_succ];by_cases h:j<l.length
  ·simp [List.getD,List.getElem?_eq_getElem h]
  ·simp [List.getD,List.getElem?_eq_none (Nat.le_of_not_lt h)]
theorem strD_getD0(f:Nat→Int){j:Nat}(h:j<(f 0).toNat):(strD f)[j]? =some (UInt8.ofNat (f (j+1)).toNat):=by
 simp [strD,List.getElem?_range h]
theorem bytesL_den(l:List UInt8)(j:Nat):(E.rowl (l.map fun b=>((b.toNat:Nat):Int))).den ρ j=((l.getD j 0).toNat:Nat):=by
 simp only [E.den];by_cases h:j<l.length
 ·simp [List.getD,List.getElem?_eq_getElem h]
 ·simp [List.getD,List.getElem?_eq_none (Nat.le_of_not_lt h)]
theorem eSby_den(s:E):(eSby s).den ρ=sbyF (s.den ρ):=by
 unfold eSby;split
 ·rename_i n l;split
  ·rename_i h;funext j;simp only [E.den,sbyF,List.getD_cons_succ];by_cases hj:j<l.length
   ·have:=List.all_eq_true.1 h l[j] (List.getElem_mem hj);simp only [Bool.and_eq_true,decide_eq_true_eq]at this;simp only [List.getD,List.getElem?_eq_getElem hj,Option.getD_some];have h2:(UInt8.ofNat l[j].toNat).toNat=l[j].toNat:=by
     rw [UInt8.toNat_ofNat'];omega
    rw [h2];omega
   ·simp [List.getD,List.getElem?_eq_none (Nat.le_of_not_lt hj)]
  ·rfl
 ·rfl
theorem mkStr_str(s:E):(∃l,mkStr s= .str l∧l=strD (s.den ρ))∨mkStr s= .strE s:=by
 unfold mkStr;split
 ·rename_i n l;split
  ·rename_i h;simp only [Bool.and_eq_true,beq_iff_eq]at h;obtain⟨rfl,h⟩:=h;left;refine⟨_,rfl,?_⟩;apply List.ext_getElem?;intro j;by_cases hj:j<l.length
   ·rw [strD_getD0 _ (by simpa [E.den] using hj),List.getElem?_map,List.getElem?_eq_getElem hj];simp [E.den,List.getD,List.getElem?_eq_getElem hj]
   ·rw [List.getElem?_eq_none (by simp;omega),List.getElem?_eq_none (by rw [strD_length];simp [E.den];omega)]
  ·exact .inr rfl
 ·exact .inr rfl
theorem mkStr_cells(s:E):SV.cells ρ (mkStr s)=[.string ⟨(strD (s.den ρ)).toArray⟩]:=by
 rcases mkStr_str ρ s with⟨l,h,rfl⟩ | h<;>rw [h]<;>rfl
theorem mkStr_val(s:E):(mkStr s).val ρ= .string ⟨(strD (s.den ρ)).toArray⟩:=by
 rcases mkStr_str ρ s with⟨l,h,rfl⟩ | h<;>rw [h]<;>rfl
theorem eLen_den(s:E):(eLen s).den ρ 0=s.den ρ 0:=by rw [eLen,eSel_den];rfl
theorem strD_eLen(s:E):((strD (s.den ρ)).length:Int)=max 0 ((eLen s).den ρ 0):=by rw [strD_length,eLen_den];omega
theorem toStrE_val{v:SV}{s:E}(h:toStrE v=some s):v.val ρ= .string ⟨(strD (s.den ρ)).toArray⟩:=by
 unfold toStrE at h;split at h
 ·cases h;rw [rowB_den,strD_rowS];rfl
 ·cases h;rfl
 ·cases h
theorem toStrE_cells{v:SV}{s:E}(h:toStrE v=some s):SV.cells ρ v=[.string ⟨(strD (s.den ρ)).toArray⟩]:=by
 unfold toStrE at h;split at h
 ·cases h;rw [rowB_den,strD_rowS];rfl
 ·cases h;rfl
 ·cases h
theorem strD_getD(f:Nat→Int){j:Nat}(h:j<(f 0).toNat):(strD f)[j]? =some (UInt8.ofNat (f (j+1)).toNat):=by
 simp [strD,List.getElem?_range h]
theorem eBytes_den(a n:E):strD ((eBytes a n).den ρ)=(List.range (n.den ρ 0).toNat).map fun j=>UInt8.ofNat (a.den ρ j).toNat:=by
 unfold strD;have h0:(eBytes a n).den ρ 0=n.den ρ 0:=by simp [eBytes,E.den]
 rw [h0];refine List.map_congr_left fun j hj=>?_
 have hj:=List.mem_range.1 hj;have:(eBytes a n).den ρ (j+1)=a.den ρ j:=by
  rw [eBytes,den_upd,den_lit,if_neg (by simp),den_spl,den_lit,if_pos (by simp;omega)];congr 1
 rw [this]
theorem eSub2_den(s lo hi:E)(hl:0≤lo.den ρ 0)(hlh:lo.den ρ 0≤hi.den ρ 0)(hh:hi.den ρ 0≤s.den ρ 0):
  strD ((eSub2 s lo hi).den ρ)=((strD (s.den ρ)).take (hi.den ρ 0).toNat).drop (lo.den ρ 0).toNat:=by
 have h0:(eSub2 s lo hi).den ρ 0=hi.den ρ 0 - lo.den ρ 0:=by
  unfold eSub2;split<;>simp [E.den,eSub_den]
 have hj: ∀j,(eSub2 s lo hi).den ρ (j+1)=s.den ρ ((lo.den ρ 0).toNat+j+1):=by
  intro j;unfold eSub2;split
  ·rw [den_upd,den_lit,if_neg (by simp),eShift_den,den_upd,den_lit,if_neg (by simp)];congr 1
  ·rw [den_upd,den_lit,if_neg (by simp),eShift_den];congr 1
 apply List.ext_getElem?;intro j;rw [List.getElem?_drop,List.getElem?_take];by_cases hc:j<(hi.den ρ 0 - lo.den ρ 0).toNat
 ·rw [strD_getD _ (by rw [h0];exact hc),if_pos (by omega),strD_getD _ (by omega),hj]
 ·rw [List.getElem?_eq_none (by rw [strD_length,h0];omega),if_neg (by omega)]
theorem eCat_den(s t:E)(hs:0≤s.den ρ 0)(ht:0≤t.den ρ 0):strD ((eCat s t).den ρ)=strD (s.den ρ)++strD (t.den ρ):=by
 have h0:(eCat s t).den ρ 0=s.den ρ 0+t.den ρ 0:=by simp [eCat,E.den,eAdd_den,eLen_den]
 have hj: ∀j,(eCat s t).den ρ (j+1)=if(s.den ρ 0).toNat≤j∧j<(s.den ρ 0).toNat+(t.den ρ 0).toNat then t.den ρ (j - (s.den ρ 0).toNat+1)else s.den ρ (j+1):=by
  intro j;rw [eCat,den_upd,den_lit,if_neg (by simp),den_spl];simp only [eAdd_den,eLen_den,den_lit,eShift_den];have e:(s.den ρ 0+1).toNat=(s.den ρ 0).toNat+1:=by omega
  rw [e];by_cases hc:(s.den ρ 0).toNat≤j∧j<(s.den ρ 0).toNat+(t.den ρ 0).toNat
  ·rw [if_pos (by omega),if_pos hc];congr 1;simp only [show(1:Int).toNat=1 from rfl];omega
  ·rw [if_neg (by omega),if_neg hc]
 apply List.ext_getElem?;intro j;by_cases hc:j<(s.den ρ 0+t.den ρ 0).toNat
 ·rw [strD_getD _ (by rw [h0];exact hc),hj];by_cases hc2:j<(s.den ρ 0).toNat
  ·rw [if_neg (by omega),List.getElem?_append_left (by rw [strD_length];exact hc2),strD_getD _ hc2]
  ·rw [if_pos (by omega),List.getElem?_append_right (by rw [strD_length];omega),strD_length,strD_getD _ (by omega)]
 ·rw [List.getElem?_eq_none (by rw [strD_length,h0];omega),List.getElem?_eq_none (by rw [List.length_append,strD_length,strD_length];omega)]
theorem bSeq_den(a b:E):(bSeq a b).den ρ=(strD (a.den ρ)==strD (b.den ρ)):=by
 unfold bSeq;by_cases h:a=b
 ·rw [if_pos h,h];simp [BE.den]
 ·rw [if_neg h];rfl
theorem eBin_den(o:IOp)(k:IntKind)(a b:E):(eBin o k a b).den ρ 0=iop o k (a.den ρ 0) (b.den ρ 0):=by
 unfold eBin;split<;>rfl
theorem eWrap_den(k:IntKind)(a:E):(eWrap k a).den ρ 0=k.wrap (a.den ρ 0):=by
 unfold eWrap;split<;>rfl
theorem bNz_den(a:E):(bNz a).den ρ= !(a.den ρ 0==0):=by
 unfold bNz;split<;>rfl
theorem bEq_den(a b:E):(bEq a b).den ρ=(a.den ρ 0==b.den ρ 0):=by
 unfold bEq;split
 ·rfl
 ·split<;>simp_all [BE.den]
theorem bLt_den(a b:E):(bLt a b).den ρ=decide (a.den ρ 0<b.den ρ 0):=by
 unfold bLt;split<;>rfl
theorem bLe_den(a b:E):(bLe a b).den ρ=decide (a.den ρ 0≤b.den ρ 0):=by
 unfold bLe;split<;>rfl
theorem bNot_den(b:BE):(bNot b).den ρ= !b.den ρ:=by
 unfold bNot;split<;>simp [BE.den]
theorem bAnd_den(a b:BE):(bAnd a b).den ρ=(a.den ρ&&b.den ρ):=by
 unfold bAnd;split<;>simp [BE.den]
theorem bOr_den(a b:BE):(bOr a b).den ρ=(a.den ρ||b.den ρ):=by
 unfold bOr;split<;>simp [BE.den]
theorem bIte_den(c a b:BE):(bIte c a b).den ρ=if c.den ρ then a.den ρ else b.den ρ:=by
 unfold bIte;split
 ·simp [BE.den]
 ·simp [BE.den]
 ·rw [bOr_den];simp [BE.den]
 ·rw [bAnd_den];simp [BE.den]
 ·rfl
theorem segCells_length(k:IntKind)(n:Nat)(f:Nat→Int):(segCells k n f).length=n:=by simp [segCells]
theorem segCells_getElem?(k:IntKind)(n:Nat)(f:Nat→Int)(j:Nat):(segCells k n f)[j]? =if j<n then some (.int k (f j))else none:=by
 unfold segCells;rw [List.getElem?_map];by_cases h:j<n
 ·rw [List.getElem?_range h,if_pos h];rfl
 ·rw [List.getElem?_eq_none (by simp;omega),if_neg h];rfl
theorem segCells_congr(k:IntKind)(n:Nat){f g:Nat→Int}(h: ∀j,j<n→f j=g j):segCells k n f=segCells k n g:=by
 unfold segCells;exact List.map_congr_left fun j hj=>by rw [h j (List.mem_range.1 hj)]
theorem segCells_take(k:IntKind)(n m:Nat)(f:Nat→Int)(h:m≤n):(segCells k n f).take m=segCells k m f:=by
 unfold segCells;rw [←List.map_take,List.take_range,Nat.min_eq_left h]
theorem segCells_drop(k:IntKind)(n m:Nat)(f:Nat→Int):(segCells k n f).drop m=segCells k (n - m) fun j=>f (m+j):=by
 apply List.ext_getElem?;intro j;rw [List.getElem?_drop,segCells_getElem?,segCells_getElem?];by_cases h:m+j<n
 ·rw [if_pos h,if_pos (by omega)]
 ·rw [if_neg h,if_neg (by omega)]
mutual
theorem cells_length: ∀v:SV,(SV.cells ρ v).length=v.width
 | .agg cs=>by simp only [SV.cells,SV.width];exact cellsL_length cs
 | .seg k n a=>by simp [SV.cells,SV.width,segCells_length]
 | .int .. =>rfl
 | .bool _=>rfl
 | .nilp=>rfl
 | .nils=>rfl
 | .nilf=>rfl
 | .nili=>rfl
 | .nilm=>rfl
 | .undef=>rfl
 | .ptr .. =>rfl
 | .ptri .. =>rfl
 | .pv .. =>rfl
 | .sl .. =>rfl
 | .vv _=>rfl
 | .str _=>rfl
 | .fn .. =>rfl
 | .fm .. =>rfl
 | .fmi .. =>rfl
 | .tup _=>rfl
 | .opt .. =>rfl
 | .vsel .. =>rfl
 | .yld _=>rfl
 | .mp _=>rfl
 | .vsub .. =>rfl
 | .ptrE _=>rfl
 | .strE _=>rfl
 | .ifv .. =>rfl
 | .ifl .. =>rfl
 | .ifp .. =>rfl
 | .asl .. =>rfl
 | .cvE _=>rfl
theorem cellsL_length: ∀l:List SV,(SV.cellsL ρ l).length=SV.widthL l
 | []=>rfl
 | v::r=>by simp only [SV.cellsL,SV.widthL,List.length_append];rw [cells_length v,cellsL_length r]
end
theorem cellsL_append(a b:List SV):SV.cellsL ρ (a++b)=SV.cellsL ρ a++SV.cellsL ρ b:=by
 induction a with
 | nil=>rfl
 | cons v r ih=>simp only [List.cons_append,SV.cellsL,ih,List.append_assoc]
def SV.plain:SV→Bool
 | .agg _=>false
 | .seg .. =>false
 | _=>true
theorem cells_plain{v:SV}(h:v.plain=true):SV.cells ρ v=[v.val ρ]:=by
 cases v<;>simp_all [SV.plain,SV.cells,SV.val]
theorem rowDrop_plain(d:Nat){v:SV}(h:v.plain=true)(r:List SV):rowDrop (d+1) (v::r)=rowDrop d r:=by
 cases v<;>simp_all [SV.plain,rowDrop]
theorem rowTake_plain(d:Nat){v:SV}(h:v.plain=true)(r:List SV):rowTake (d+1) (v::r)=(rowTake d r).map (v:: ·):=by
 cases v<;>simp_all [SV.plain,rowTake]
theorem rowDrop_cells: ∀(cs:List SV) (d:Nat) (r:List SV),rowDrop d cs=some r→SV.cellsL ρ r=(SV.cellsL ρ cs).drop d
 | cs,0,r,h=>by simp [rowDrop]at h;subst h;rfl
 | [],d+1,r,h=>by simp [rowDrop]at h;subst h;simp [SV.cellsL]
 | v::cs,d+1,r,h=>by
  by_cases hp:v.plain=true
  ·rw [rowDrop_plain d hp]at h;rw [rowDrop_cells cs d r h];simp [SV.cellsL,cells_plain ρ hp]
  ·cases v with
   | agg x=>simp [rowDrop]at h
   | seg k n a=>
    simp only [rowDrop]at h;simp only [SV.cellsL,SV.cells];split at h
    ·rename_i hlt;simp only [Option.some.injEq]at h;subst h;simp only [SV.cellsL,SV.cells];rw [List.drop_append_of_le_length (by rw [segCells_length];omega),segCells_drop];congr 1;apply segCells_congr;intro j _;rw [eShift_den];rfl
    ·rename_i hge;rw [rowDrop_cells cs _ r h,List.drop_append,segCells_length,List.drop_of_length_le (l:=segCells k n _) (by rw [segCells_length];omega)];rfl
   | _=>simp [SV.plain]at hp
theorem rowTake_cells: ∀(cs:List SV) (d:Nat) (r:List SV),rowTake d cs=some r→SV.cellsL ρ r=(SV.cellsL ρ cs).take d
 | cs,0,r,h=>by simp [rowTake]at h;subst h;simp [SV.cellsL]
 | [],d+1,r,h=>by simp [rowTake]at h;subst h;simp [SV.cellsL]
 | v::cs,d+1,r,h=>by
  by_cases hp:v.plain=true
  ·rw [rowTake_plain d hp,Option.map_eq_some_iff]at h;obtain⟨x,hx,rfl⟩:=h;simp [SV.cellsL,cells_plain ρ hp,rowTake_cells cs d x hx]
  ·cases v with
   | agg x=>simp [rowTake]at h
   | seg k n a=>
    simp only [rowTake]at h;simp only [SV.cellsL,SV.cells];split at h
    ·rename_i hle;simp only [Option.some.injEq]at h;subst h;simp only [SV.cellsL,SV.cells,List.append_nil];rw [List.take_append_of_le_length (by rw [segCells_length];omega),segCells_take _ _ _ _ hle]
    ·rename_i hgt;rw [Option.map_eq_some_iff]at h;obtain⟨x,hx,rfl⟩:=h;simp only [SV.cellsL,SV.cells];rw [rowTake_cells cs _ x hx,List.take_append,segCells_length,List.take_of_length_le (l:=segCells k n _) (by rw [segCells_length];omega)]
   | _=>simp [SV.plain]at hp
theorem rowCut_cells{c size:Nat}{cs r:List SV}(h:rowCut c size cs=some r):
  SV.cellsL ρ r=((SV.cellsL ρ cs).drop c).take size∧c+size≤(SV.cellsL ρ cs).length:=by
 unfold rowCut at h;split at h
 ·rename_i hle;split at h
  ·rename_i x hx;exact⟨by rw [rowTake_cells ρ _ _ _ h,rowDrop_cells ρ _ _ _ hx],by rw [cellsL_length];exact hle⟩
  ·cases h
 ·cases h
theorem rowPut_cells{c:Nat}{vs cs r:List SV}(h:rowPut c vs cs=some r):
  SV.cellsL ρ r=(SV.cellsL ρ cs).take c++SV.cellsL ρ vs++(SV.cellsL ρ cs).drop (c+(SV.cellsL ρ vs).length)∧
   c+(SV.cellsL ρ vs).length≤(SV.cellsL ρ cs).length:=by
 unfold rowPut at h;split at h
 ·rename_i hle;split at h
  ·rename_i x y hx hy;simp only [Option.some.injEq]at h;subst h;rw [cellsL_append,cellsL_append,rowTake_cells ρ _ _ _ hx,rowDrop_cells ρ _ _ _ hy,cellsL_length,cellsL_length];exact⟨rfl,hle⟩
  ·cases h
 ·cases h
theorem ofCells_val{agg:Bool}{cs:List SV}{v:SV}(h:ofCells agg cs=some v):
  (agg=true→v.val ρ= .agg (SV.cellsL ρ cs).toArray)∧(agg=false→SV.cellsL ρ cs=[v.val ρ]):=by
 unfold ofCells at h;split at h
 ·rename_i ha;simp only [Option.some.injEq]at h;subst h;simp [ha,SV.val]
 ·rename_i ha;refine⟨fun hc=>absurd hc ha,fun _=>?_⟩;split at h
  ·simp only [Option.some.injEq]at h;subst h;simp [SV.cellsL,SV.cells,SV.val,segCells,eSel_den,E.den]
  ·cases h
  ·cases h
  ·rename_i v' h1 h2 h3;simp only [Option.some.injEq]at h;subst h;have hp:v'.plain=true:=by
    cases v' with
    | agg cs=>exact absurd rfl (h3 cs)
    | seg k n a=>exact absurd rfl (h2 k n a)
    | _=>rfl
   simp [SV.cellsL,cells_plain ρ hp]
  ·cases h
structure Env.Ok (ρ:Env):Prop where
theorem Env.ok(ρ:Env):ρ.Ok:=⟨⟩
theorem Env.Ok.vvD{ρ:Env}(_:ρ.Ok)(i:Nat):(ρ.vv.getD i V1.nil).v.oneCell'=true:=(ρ.vv.getD i V1.nil).one
theorem Env.Ok.vaD{ρ:Env}(_:ρ.Ok)(i j:Nat):((ρ.va.getD i fun _=>V1.nil) j).v.oneCell'=true:=((ρ.va.getD i fun _=>V1.nil) j).one
theorem cells_of_one{v:Value}(h:v.oneCell'=true):v.cells= #[v]:=by
 cases v<;>simp_all [Value.oneCell',Value.cells]
theorem one_val{v:SV}(h:v.one=true)(hs:v.plain=true)(hok:ρ.Ok):(v.val ρ).oneCell'=true:=by
 cases v with
 | vv i=>simp only [SV.val];exact hok.vvD i
 | vsel a i=>simp only [SV.val];exact hok.vaD a _
 | ptrE e=>simp only [SV.val];exact ptrV_one _
 | cvE e=>simp only [SV.val];exact bslV_one _
 | pv v i s c=>simp only [SV.val,intoSlice];split<;>rfl
 | asl v i s c n=>simp only [SV.val,aslV];split<;>rfl
 | vsub v cs s=>simp only [SV.val];exact subSlices_one _ _ _ _ (ρ.vv.getD v V1.nil).one
 | ifv c v=>simp only [SV.val];split<;>first | rfl | (unfold ifaceOf;split<;>rfl)
 | _=>first | rfl | simp_all [SV.one,SV.plain]
theorem one_cells{v:SV}(h:v.one=true)(hok:ρ.Ok): ∀u∈SV.cells ρ v,u.oneCell'=true:=by
 by_cases hs:v.plain=true
 ·rw [cells_plain ρ hs];intro u hu;rw [List.mem_singleton]at hu;subst hu;exact one_val ρ h hs hok
 ·cases v with
  | agg x=>simp [SV.one]at h
  | seg k n a=>
   intro u hu;simp only [SV.cells,segCells,List.mem_map]at hu;obtain⟨j,_,rfl⟩:=hu;rfl
  | _=>simp [SV.plain]at hs
theorem oneL_cells{l:List SV}(h:l.all SV.one=true)(hok:ρ.Ok): ∀u∈SV.cellsL ρ l,u.oneCell'=true:=by
 induction l with
 | nil=>intro u hu;cases hu
 | cons v r ih=>
  rw [List.all_cons,Bool.and_eq_true]at h;intro u hu;simp only [SV.cellsL,List.mem_append]at hu;exact hu.elim (one_cells ρ h.1 hok u) (ih h.2 u)
theorem toCells_cells{v:SV}{cs:List SV}(h:toCells v=some cs)(hok:ρ.Ok):
  (v.val ρ).cells.toList=SV.cellsL ρ cs∧∀u∈SV.cellsL ρ cs,u.oneCell'=true:=by
 by_cases hs:v.plain=true
 ·have h1:v.one=true∧cs=[v]:=by
   cases v<;>simp_all [toCells,SV.plain]
  obtain⟨h1,rfl⟩:=h1;have h2:=one_val ρ h1 hs hok;refine⟨?_,oneL_cells ρ (by simp [h1]) hok⟩;rw [cells_of_one h2];simp [SV.cellsL,cells_plain ρ hs]
 ·cases v with
  | agg x=>
   simp only [toCells]at h;split at h
   ·rename_i ha;simp only [Option.some.injEq]at h;subst h;exact⟨by simp [SV.val,Value.cells],oneL_cells ρ ha hok⟩
   ·cases h
  | seg k n a=>
   simp only [toCells,SV.one,if_true,Option.some.injEq]at h;subst h;exact⟨by simp [SV.val,Value.cells,SV.cellsL,SV.cells],oneL_cells ρ (by simp [SV.one]) hok⟩
  | _=>simp [SV.plain]at hs
theorem ofValue_plain(v:Value)(x:SV)(h:ofValue v=some x)(hn: ∀l,v≠ .agg l):x.plain=true:=by
 unfold ofValue at h;split at h<;>simp_all<;>(subst h;rfl)
mutual
theorem ofValue_val: ∀(v:Value) (x:SV),ofValue v=some x→x.val ρ=v
 | .int k n,x,h=>by simp [ofValue]at h;subst h;rfl
 | .bool b,x,h=>by simp [ofValue]at h;subst h;rfl
 | .pointer none,x,h=>by simp [ofValue]at h;subst h;rfl
 | .pointer (some _),x,h=>by simp [ofValue]at h
 | .slice none 0 0,x,h=>by simp [ofValue]at h;subst h;rfl
 | .slice none (_+1) _,x,h=>by simp [ofValue]at h
 | .slice none 0 (_+1),x,h=>by simp [ofValue]at h
 | .slice (some _) _ _,x,h=>by simp [ofValue]at h
 | .nilFunc,x,h=>by simp [ofValue]at h;subst h;rfl
 | .nilIface,x,h=>by simp [ofValue]at h;subst h;rfl
 | .map none,x,h=>by simp [ofValue]at h;subst h;rfl
 | .map (some _),x,h=>by simp [ofValue]at h
 | .string ⟨⟨l⟩⟩,x,h=>by simp [ofValue]at h;subst h;rfl
 | .tuple ⟨[]⟩,x,h=>by simp [ofValue]at h;subst h;rfl
 | .tuple ⟨_::_⟩,x,h=>by simp [ofValue]at h
 | .agg ⟨l⟩,x,h=>by
  simp only [ofValue,Option.map_eq_some_iff]at h;obtain⟨y,hy,rfl⟩:=h;simp only [SV.val];rw [ofValues_cells l y hy]
 | .float ..,x,h=>by simp [ofValue]at h
 | .complex ..,x,h=>by simp [ofValue]at h
 | .chan _,x,h=>by simp [ofValue]at h
 | .func ..,x,h=>by simp [ofValue]at h
 | .iface ..,x,h=>by simp [ofValue]at h
theorem ofValues_cells: ∀(l:List Value) (xs:List SV),ofValues l=some xs→SV.cellsL ρ xs=l
 | [],xs,h=>by simp [ofValues]at h;subst h;rfl
 | v::r,xs,h=>by
  unfold ofValues at h;split at h
  ·rename_i heq;cases heq
  ·cases h
  ·rename_i v' r' hn heq;cases heq;split at h
   ·rename_i x xs' hx hxs;simp only [Option.some.injEq]at h;subst h;have hp:=ofValue_plain v x hx (fun l e=>hn l e);simp only [SV.cellsL,cells_plain ρ hp,ofValue_val v x hx,ofValues_cells r xs' hxs];rfl
   ·cases h
end
end
end Go.RX
