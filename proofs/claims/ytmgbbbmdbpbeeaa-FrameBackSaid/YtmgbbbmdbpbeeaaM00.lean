/- Executor. -/
import Derived.OrdersIn
import Derived.WalkKit
open Array renaming getElem?_eq_some_iff → adD
open List renaming eq_nil_of_length_eq_zero → adR, getElem?_eq_getElem → ad8, getElem?_eq_none → aef, getElem?_eq_some_iff → adu, getElem?_set_ne → adY
open Nat renaming lt_of_lt_of_le → adI
open Option.some renaming injEq → adv
namespace Go.RX
inductive TX where
 | add | sub | mul | quo | rem | aQ | bJ | aD | OM | shl | shr | tu | imax
 deriving DecidableEq,Repr
inductive E where
 | lit (n:Int)
 | var (i:Nat)
 | aO (i:Nat)
 | NV (a i:E)
 | bin (o:TX) (k:IntKind) (a b:E)
 | wrap (k:IntKind) (a:E)
 | rO (a i v:E)
 | shift (a o:E)
 | s7 (a o n b:E)
 | kc (n:Nat) (a:E)
 | ky (b:Nat)
 | oz (l:List Int)
 | OO (a i:E)
 | oR (a i s:E)
 | QN (s:E)
 deriving DecidableEq,Repr,Inhabited
inductive BE where
 | lit (b:Bool)
 | var (i:Nat)
 | eq (a b:E)
 | lt (a b:E)
 | le (a b:E)
 | nz (a:E)
 | QO (n:Nat) (a b:E)
 | not (a:BE)
 | and (a b:BE)
 | or (a b:BE)
 | ite (c t e:BE)
 | seq (a b:E)
 deriving DecidableEq,Repr,Inhabited
structure HP where
 wr:Bool
 p:World→(Nat→Prop)→Prop
 stable: ∀w w' S,p w S→(∀k,S k→w'.heap[k]? =w.heap[k]?)→p w' S
structure V1 where
 v:Value
 one:v.oneCell'=true
def V1.nil:V1:=⟨.nilIface,rfl⟩
structure Env where
 iv:List Int:=[]
 av:List (Nat→Int):=[]
 bo:List Bool:=[]
 bv:List Nat:=[]
 vv:List V1:=[]
 va:List (Nat→V1):=[]
 pv:List HP:=[]
 lr:List Loop:=[]
def Lm(o:TX)(k:IntKind)(x y:Int):Int:=
 let a:=BitVec.ofInt k.bits x
 let b:=BitVec.ofInt k.bits y
 match o with
 | .aQ=>k.wrap (a &&& b).toNat
 | .bJ=>k.wrap (a|||b).toNat
 | .aD=>k.wrap (a^^^b).toNat
 | _=>k.wrap (a &&& ~~~b).toNat
def ak(o:TX)(k:IntKind)(x y:Int):Int:=
 match o with
 | .add=>x+y
 | .sub=>x - y
 | .mul=>x*y
 | .quo=>x.tdiv y
 | .rem=>x.tmod y
 | .tu=>if y<x then y else x
 | .imax=>if x<y then y else x
 | .shl=>k.wrap (x*2^(min y.toNat k.bits))
 | .shr=>x.fdiv (2^(min y.toNat k.bits))
 | o=>Lm o k x y
def Jg:Int→Nat
 | .ofNat n=>2*n
 | .negSucc n=>2*n+1
def tw(acc:Nat)(z:Int):Nat:=(2*(acc*2^((Jg z).log2+1)+Jg z)+1)*2^((Jg z).log2+1)
def cI(l:List Int):Nat:=l.foldl tw 0
def bZ(f:Nat→Int):List UInt8:=(List.range (f 0).toNat).map fun j=>UInt8.ofNat (f (j+1)).toNat
def Jh(l:List UInt8):Nat→Int
 | 0=>l.length
 | j+1=>((l.getD j 0).toNat:Nat)
theorem mK(l:List UInt8):bZ (Jh l)=l:=by
 apply List.ext_getElem?;intro j;simp only [bZ,Jh,Int.toNat_natCast,List.getElem?_map];by_cases h:j<l.length
 ·rw [List.getElem?_range h,ad8 h];simp [List.getD,ad8 h]
 ·rw [aef (by simp;omega),aef (by omega)];rfl
theorem cu(f:Nat→Int):(bZ f).length=(f 0).toNat:=by simp [bZ]
def two:Nat→Nat→Nat×Nat
 | 0,k=>(0,k)
 | d+1,k=>if k%2=1 then(0,k/2)else((two d (k/2)).1+1,(two d (k/2)).2)
def uI(i j:Nat):Nat:=2^i*(2*j+1)
theorem DG: ∀(i j d:Nat),i<d→two d (uI i j)=(i,j)
 | 0,j,d+1,_=>by unfold two uI;rw [if_pos (by omega)];congr 1;omega
 | i+1,j,d+1,h=>by
  have e:uI (i+1) j=2*uI i j:=by unfold uI;rw [Nat.pow_succ,Nat.mul_comm (2^i) 2,Nat.mul_assoc]
  unfold two;rw [if_neg (by rw [e];omega),e,Nat.mul_div_cancel_left _ (by decide),DG i j d (by omega)]
def split2(k:Nat):Nat×Nat:=two k k
theorem DH(i j:Nat):split2 (uI i j)=(i,j):=by
 apply DG;unfold uI;have h1:i<2^i:=Nat.lt_two_pow_self;have h2:2^i*1≤2^i*(2*j+1):=Nat.mul_le_mul_left _ (by omega);omega
def oA(f:Nat→Int)(i:Nat):Nat→Int:=fun j=>f (uI i j)
def DJ(f:Nat→Int)(i:Nat)(s:Nat→Int):Nat→Int:=fun k=>if(split2 k).1=i then s (split2 k).2 else f k
theorem iJ(f:Nat→Int)(i j:Nat)(s:Nat→Int):oA (DJ f i s) j=if j=i then s else oA f j:=by
 funext k;simp only [oA,DJ,DH];split<;>rfl
def Ji(f:Nat→Int):Nat→Int:=fun j=>((UInt8.ofNat (f (j+1)).toNat).toNat:Nat)
def E.den(ρ:Env):E→Nat→Int
 | .lit n=>fun _=>n
 | .var i=>fun _=>ρ.iv.getD i 0
 | .aO i=>ρ.av.getD i (fun _=>0)
 | .NV a i=>fun _=>a.den ρ (i.den ρ 0).toNat
 | .bin o k a b=>fun _=>ak o k (a.den ρ 0) (b.den ρ 0)
 | .wrap k a=>fun _=>k.wrap (a.den ρ 0)
 | .rO a i v=>fun j=>if j=(i.den ρ 0).toNat then v.den ρ 0 else a.den ρ j
 | .shift a o=>fun j=>a.den ρ ((o.den ρ 0).toNat+j)
 | .s7 a o n b=>fun j=>if(o.den ρ 0).toNat≤j∧j<(o.den ρ 0).toNat+(n.den ρ 0).toNat then b.den ρ (j - (o.den ρ 0).toNat)else a.den ρ j
 | .kc n a=>fun _=>(cI ((List.range n).map (a.den ρ)):Nat)
 | .ky b=>fun _=>(ρ.bv.getD b 0:Nat)+1
 | .oz l=>fun j=>l.getD j 0
 | .OO a i=>oA (a.den ρ) (i.den ρ 0).toNat
 | .oR a i s=>DJ (a.den ρ) (i.den ρ 0).toNat (s.den ρ)
 | .QN s=>Ji (s.den ρ)
abbrev E.i(ρ:Env)(e:E):Int:=e.den ρ 0
def BE.den(ρ:Env):BE→Bool
 | .lit b=>b
 | .var i=>ρ.bo.getD i false
 | .eq a b=>a.den ρ 0==b.den ρ 0
 | .lt a b=>decide (a.den ρ 0<b.den ρ 0)
 | .le a b=>decide (a.den ρ 0≤b.den ρ 0)
 | .nz a=> !(a.den ρ 0==0)
 | .QO n a b=>(List.range n).all fun j=>a.den ρ j==b.den ρ j
 | .not a=> !a.den ρ
 | .and a b=>a.den ρ&&b.den ρ
 | .or a b=>a.den ρ||b.den ρ
 | .ite c t e=>if c.den ρ then t.den ρ else e.den ρ
 | .seq a b=>bZ (a.den ρ)==bZ (b.den ρ)
def BE.prop(ρ:Env):BE→Prop
 | .lit b=>b=true
 | .var i=>ρ.bo.getD i false=true
 | .eq a b=>a.den ρ 0=b.den ρ 0
 | .lt a b=>a.den ρ 0<b.den ρ 0
 | .le a b=>a.den ρ 0≤b.den ρ 0
 | .nz a=>a.den ρ 0≠0
 | .QO n a b=> ∀j,j<n→a.den ρ j=b.den ρ j
 | .not a=> ¬a.prop ρ
 | .and a b=>a.prop ρ∧b.prop ρ
 | .or a b=>a.prop ρ∨b.prop ρ
 | .ite c t e=>(c.prop ρ→t.prop ρ)∧(¬c.prop ρ→e.prop ρ)
 | .seq a b=>bZ (a.den ρ)=bZ (b.den ρ)
theorem BE.bX(ρ:Env)(b:BE):b.den ρ=true↔b.prop ρ:=by
 induction b with
 | lit b=>rfl
 | var i=>rfl
 | eq a b=>simp [BE.den,BE.prop]
 | lt a b=>simp [BE.den,BE.prop]
 | le a b=>simp [BE.den,BE.prop]
 | nz a=>simp [BE.den,BE.prop]
 | QO n a b=>simp [BE.den,BE.prop]
 | not a ih=>simp [BE.den,BE.prop,←ih]
 | and a b lB rP=>simp [BE.den,BE.prop,lB,rP]
 | or a b lB rP=>simp [BE.den,BE.prop,lB,rP]
 | ite c t e WR RQ RR=>
  simp only [BE.den,BE.prop,←WR,←RQ,←RR];cases c.den ρ<;>simp
 | seq a b=>simp [BE.den,BE.prop]
structure Cut where
 lo:E
 hi:E
 mx:Option E
 deriving DecidableEq,Repr,Inhabited
inductive SV where
 | int (k:IntKind) (e:E)
 | bool (b:BE)
 | iK | cC | mc | rQ | rR | undef
 | ptr (b c:Nat)
 | oB (b:Nat) (i:E) (s c:Nat)
 | pv (v:Nat) (i:E) (s c:Nat)
 | sl (b:Nat) (i:E) (s:Nat) (n m:E)
 | vv (i:Nat)
 | str (l:List UInt8)
 | fn (f:Nat) (caps:List SV)
 | agg (cs:List SV)
 | cD (k:IntKind) (n:Nat) (a:E)
 | oJ (vs:List SV)
 | opt (c:BE) (v:SV)
 | DK (a:Nat) (i:E)
 | Jj (l:Nat)
 | mp (b:Nat)
 | jP (v:Nat) (cs:List Cut) (s:Nat)
 | nB (e:E)
 | kb (s:E)
 | F_ (c:BE) (v:Nat)
 | Ln (t:Nat) (k:IntKind) (e:E)
 | KN (e:E)
 deriving Repr,Inhabited
def aj(k:IntKind)(n:Nat)(f:Nat→Int):List Value:=(List.range n).map fun j=> .int k (f j)
def dU(v:Value)(n:Nat):Value:=
 match v with
 | .slice (some a) _ _=> .pointer (some (a.add n))
 | _=> .pointer none
def aC(s:Nat)(v:Value)(lo hi:Nat)(mx:Option Nat):Value:=
 match v with
 | .slice a _ c=> .slice (if mx.getD c=lo then a else a.map (·.add (lo*s))) (hi - lo) (mx.getD c - lo)
 | _=> .nilIface
theorem aI(s:Nat)(v:Value)(lo hi:Nat)(mx:Option Nat):(aC s v lo hi mx).oneCell'=true:=by
 unfold aC;split<;>rfl
def cN(ρ:Env)(s:Nat)(v:Value):List Cut→Value
 | []=>v
 | c::r=>cN ρ s (aC s v (c.lo.den ρ 0).toNat (c.hi.den ρ 0).toNat (c.mx.map fun m=>(m.den ρ 0).toNat)) r
theorem mf(ρ:Env)(s:Nat): ∀(cs:List Cut) (v:Value),v.oneCell'=true→(cN ρ s v cs).oneCell'=true
 | [],_,h=>h
 | _::r,_,_=>mf ρ s r _ (aI ..)
theorem mL(ρ:Env)(s:Nat): ∀(a b:List Cut) (v:Value),cN ρ s v (a++b)=cN ρ s (cN ρ s v a) b
 | [],_,_=>rfl
 | _::r,b,_=>mL ρ s r b _
def mM(z:Int):Value:=if z=0 then .pointer none else .pointer (some ⟨(z - 1).toNat,0,none⟩)
theorem rS(b:Nat):mM ((b:Nat)+1)= .pointer (some ⟨b,0,none⟩):=by
 unfold mM;rw [if_neg (by omega),show((b:Int)+1 - 1).toNat=b by omega]
theorem DL(z:Int):(mM z).oneCell'=true:=by unfold mM;split<;>rfl
def Bz(z:Int):Value:=if z=0 then .slice none 0 0 else
 .slice (some ⟨(split2 z.toNat).1,(split2 (split2 z.toNat).2).1,none⟩) (split2 (split2 (split2 z.toNat).2).2).1 (split2 (split2 (split2 z.toNat).2).2).2
theorem Lp:Bz 0= .slice none 0 0:=rfl
theorem DM(z:Int):(Bz z).oneCell'=true:=by unfold Bz;split<;>rfl
def rT(x:Value):Value:=
 match x with
 | .iface t v=> .iface t v
 | x=> .iface 0 x
mutual
def SV.val(ρ:Env):SV→Value
 | .int k e=> .int k (e.den ρ 0)
 | .bool b=> .bool (b.den ρ)
 | .iK=> .pointer none
 | .cC=> .slice none 0 0
 | .mc=> .nilFunc
 | .rQ=> .nilIface
 | .rR=> .map none
 | .undef=>Go.undef
 | .ptr b c=> .pointer (some ⟨ρ.bv.getD b 0,c,none⟩)
 | .oB b i s c=> .pointer (some ⟨ρ.bv.getD b 0,(i.den ρ 0).toNat*s+c,none⟩)
 | .pv v i s c=>dU (ρ.vv.getD v V1.nil).v ((i.den ρ 0).toNat*s+c)
 | .sl b i s n m=> .slice (some ⟨ρ.bv.getD b 0,(i.den ρ 0).toNat*s,none⟩) (n.den ρ 0).toNat (m.den ρ 0).toNat
 | .vv i=>(ρ.vv.getD i V1.nil).v
 | .str l=> .string ⟨l.toArray⟩
 | .fn f caps=> .func (.func f) #[] (SV.vals ρ caps).toArray
 | .agg cs=> .agg (SV.aB ρ cs).toArray
 | .cD k n a=> .agg (aj k n (a.den ρ)).toArray
 | .oJ vs=> .tuple (SV.vals ρ vs).toArray
 | .opt c v=>if c.den ρ then v.val ρ else Go.undef
 | .DK a i=>((ρ.va.getD a fun _=>V1.nil) (i.den ρ 0).toNat).v
 | .Jj l=> .func (.yield (ρ.bv.getD l 0)) #[] #[]
 | .mp b=> .map (some (ρ.bv.getD b 0))
 | .jP v cs s=>cN ρ s (ρ.vv.getD v V1.nil).v cs
 | .nB e=>mM (e.den ρ 0)
 | .kb s=> .string ⟨(bZ (s.den ρ)).toArray⟩
 | .F_ c v=>if c.den ρ then rT (ρ.vv.getD v V1.nil).v else .nilIface
 | .Ln t k e=> .iface t (.int k (e.den ρ 0))
 | .KN e=>Bz (e.den ρ 0)
def SV.vals(ρ:Env):List SV→List Value
 | []=>[]
 | v::r=>v.val ρ::SV.vals ρ r
def SV.aB(ρ:Env):List SV→List Value
 | []=>[]
 | v::r=>SV.cells ρ v++SV.aB ρ r
def SV.cells(ρ:Env):SV→List Value
 | .agg cs=>SV.aB ρ cs
 | .cD k n a=>aj k n (a.den ρ)
 | .int k e=>[.int k (e.den ρ 0)]
 | .bool b=>[.bool (b.den ρ)]
 | .iK=>[.pointer none]
 | .cC=>[.slice none 0 0]
 | .mc=>[.nilFunc]
 | .rQ=>[.nilIface]
 | .rR=>[.map none]
 | .undef=>[Go.undef]
 | .ptr b c=>[.pointer (some ⟨ρ.bv.getD b 0,c,none⟩)]
 | .oB b i s c=>[.pointer (some ⟨ρ.bv.getD b 0,(i.den ρ 0).toNat*s+c,none⟩)]
 | .pv v i s c=>[dU (ρ.vv.getD v V1.nil).v ((i.den ρ 0).toNat*s+c)]
 | .sl b i s n m=>[.slice (some ⟨ρ.bv.getD b 0,(i.den ρ 0).toNat*s,none⟩) (n.den ρ 0).toNat (m.den ρ 0).toNat]
 | .vv i=>[(ρ.vv.getD i V1.nil).v]
 | .str l=>[.string ⟨l.toArray⟩]
 | .fn f caps=>[.func (.func f) #[] (SV.vals ρ caps).toArray]
 | .oJ vs=>[.tuple (SV.vals ρ vs).toArray]
 | .opt c v=>[if c.den ρ then v.val ρ else Go.undef]
 | .DK a i=>[((ρ.va.getD a fun _=>V1.nil) (i.den ρ 0).toNat).v]
 | .Jj l=>[.func (.yield (ρ.bv.getD l 0)) #[] #[]]
 | .mp b=>[.map (some (ρ.bv.getD b 0))]
 | .jP v cs s=>[cN ρ s (ρ.vv.getD v V1.nil).v cs]
 | .nB e=>[mM (e.den ρ 0)]
 | .kb s=>[.string ⟨(bZ (s.den ρ)).toArray⟩]
 | .F_ c v=>[if c.den ρ then rT (ρ.vv.getD v V1.nil).v else .nilIface]
 | .Ln t k e=>[.iface t (.int k (e.den ρ 0))]
 | .KN e=>[Bz (e.den ρ 0)]
end
structure fE (w w':World):Prop where
 os:w'.os=w.os
 tape:w'.tape=w.tape
 output:w'.output=w.output
 size:w.heap.size≤w'.heap.size
theorem fE.refl(w:World):fE w w:=⟨rfl,rfl,rfl,Nat.le_refl _⟩
theorem fE.trans{a b c:World}(h:fE a b)(k:fE b c):fE a c:=
 ⟨k.os.trans h.os,k.tape.trans h.tape,k.output.trans h.output,Nat.le_trans h.size k.size⟩
structure Sep (hs:List HP) (S:Nat→Nat→Prop) (w:World):Prop where
 at_: ∀i h,hs[i]? =some h→h.p w (S i)∧∀k,S i k→k<w.heap.size
 apart: ∀i j hi hj,i≠j→hs[i]? =some hi→hs[j]? =some hj→(hi.wr=true∨hj.wr=true)→∀k,S i k→¬S j k
def bG(hs:List HP)(w:World):Prop:= ∃S,Sep hs S w
def HP.emp:HP:=⟨false,fun _ S=> ∀k,¬S k,fun _ _ _ h _=>h⟩
theorem bG.pick{hs:List HP}{w:World}(h:bG hs w)(idx:List Nat)(nC:List HP)(fQ:idx.Nodup)
  (he: ∀j:Nat,nC[j]? =(idx[j]?).bind (fun i=>hs[i]?)):bG nC w:=by
 obtain⟨S,hS⟩:=h;refine⟨fun j=>S (idx.getD j 0),⟨?_,?_⟩⟩
 ·intro j x hx;rw [he]at hx;cases hj:idx[j]? with
  | none=>simp [hj]at hx
  | some i=>
   simp only [hj,Option.bind_some]at hx;have:idx.getD j 0=i:=by simp [List.getD,hj]
   rw [this];exact hS.at_ i x hx
 ·intro i j hi hj dR Wd We hw k;rw [he]at Wd We;cases mF:idx[i]? with
  | none=>simp [mF]at Wd
  | some ii=>
   cases kz:idx[j]? with
   | none=>simp [kz]at We
   | some jj=>
    simp only [mF,kz,Option.bind_some]at Wd We;have e1:idx.getD i 0=ii:=by simp [List.getD,mF]
    have e2:idx.getD j 0=jj:=by simp [List.getD,kz]
    rw [e1,e2];refine hS.apart ii jj hi hj ?_ Wd We hw k;intro e;subst e;rw [adu]at mF kz;obtain⟨a1,b1⟩:=mF;obtain⟨a2,b2⟩:=kz;have Zd:=List.pairwise_iff_getElem.1 fQ;rcases Nat.lt_or_gt_of_ne dR with h | h
    ·exact Zd i j a1 a2 h (b1.trans b2.symm)
    ·exact Zd j i a2 a1 h (b2.trans b1.symm)
theorem Sep.step{hs:List HP}{S:Nat→Nat→Prop}{w w':World}(h:Sep hs S w)(i:Nat)(h0 h':HP)(hi:hs[i]? =some h0)(hw:h0.wr=true)
  (S':Nat→Prop) (iL:w.heap.size≤w'.heap.size) (rU: ∀k,k<w.heap.size→¬S i k→w'.heap[k]? =w.heap[k]?)
  (hp:h'.p w' S') (dz: ∀k,S' k→S i k∨(w.heap.size≤k∧k<w'.heap.size)):
  Sep (hs.set i h') (fun j=>if j=i then S' else S j) w':=by
 have bP:i<hs.length:=(adu.1 hi).1;refine⟨?_,?_⟩
 ·intro j x hx;by_cases hj:j=i
  ·subst hj;rw [List.getElem?_set_self bP]at hx;cases hx;simp only [if_true];refine⟨hp,fun k hk=>?_⟩;rcases dz k hk with h1 | h1
   ·exact adI ((h.at_ _ _ hi).2 k h1) iL
   ·exact h1.2
  ·rw [adY (Ne.symm hj)]at hx;simp only [hj,if_false];obtain⟨WS,hb⟩:=h.at_ j x hx;refine⟨x.stable w w' _ WS fun k hk=>rU k (hb k hk) ?_,fun k hk=>adI (hb k hk) iL⟩;exact fun QP=>h.apart i j h0 x (Ne.symm hj) hi hx (.inl hw) k QP hk
 ·intro a b ha hb dR NW NY s8 k;by_cases OP:a=i
  ·subst OP;have WT:b≠a:=Ne.symm dR;rw [adY dR]at NY;simp only [if_true,WT,if_false];intro hk KO;rcases dz k hk with h1 | h1
   ·exact h.apart a b h0 hb dR hi NY (.inl hw) k h1 KO
   ·exact absurd ((h.at_ b hb NY).2 k KO) (by omega)
  ·rw [adY (Ne.symm OP)]at NW;by_cases RT:b=i
   ·subst RT;simp only [if_true,OP,if_false];intro hk KO;rcases dz k KO with h1 | h1
    ·exact h.apart a b ha h0 dR NW hi (.inr hw) k hk h1
    ·exact absurd ((h.at_ a ha NW).2 k hk) (by omega)
   ·rw [adY (Ne.symm RT)]at NY;simp only [OP,RT,if_false];exact h.apart a b ha hb dR NW NY s8 k
theorem Sep.keep{hs:List HP}{S:Nat→Nat→Prop}{w w':World}(h:Sep hs S w)(iL:w.heap.size≤w'.heap.size)
  (rU: ∀k,k<w.heap.size→w'.heap[k]? =w.heap[k]?):Sep hs S w':=by
 refine⟨fun i x hx=>?_,h.apart⟩;obtain⟨hp,hb⟩:=h.at_ i x hx;exact⟨x.stable w w' _ hp fun k hk=>rU k (hb k hk),fun k hk=>adI (hb k hk) iL⟩
theorem Sep.new{hs:List HP}{S:Nat→Nat→Prop}{w w':World}(h:Sep hs S w)(i:Nat)(h':HP)(hi:hs[i]? =some HP.emp)
  (S':Nat→Prop) (iL:w.heap.size≤w'.heap.size) (rU: ∀k,k<w.heap.size→w'.heap[k]? =w.heap[k]?)
  (hp:h'.p w' S') (dz: ∀k,S' k→w.heap.size≤k∧k<w'.heap.size):
  Sep (hs.set i h') (fun j=>if j=i then S' else S j) w':=by
 have bP:i<hs.length:=(adu.1 hi).1;refine⟨?_,?_⟩
 ·intro j x hx;by_cases hj:j=i
  ·subst hj;rw [List.getElem?_set_self bP]at hx;cases hx;simp only [if_true];exact⟨hp,fun k hk=>(dz k hk).2⟩
  ·rw [adY (Ne.symm hj)]at hx;simp only [hj,if_false];obtain⟨WS,hb⟩:=h.at_ j x hx;exact⟨x.stable w w' _ WS fun k hk=>rU k (hb k hk),fun k hk=>adI (hb k hk) iL⟩
 ·intro a b ha hb dR NW NY s8 k;by_cases OP:a=i
  ·subst OP;have WT:b≠a:=Ne.symm dR;rw [adY dR]at NY;simp only [if_true,WT,if_false];intro hk KO;have:=(h.at_ b hb NY).2 k KO;have:=dz k hk;omega
  ·rw [adY (Ne.symm OP)]at NW;by_cases RT:b=i
   ·subst RT;simp only [if_true,OP,if_false];intro hk KO;have:=(h.at_ a ha NW).2 k hk;have:=dz k KO;omega
   ·rw [adY (Ne.symm RT)]at NY;simp only [OP,RT,if_false];exact h.apart a b ha hb dR NW NY s8 k
def aq(b:Nat)(wr:Bool)(cs:List Value):HP where
 wr:=wr
 p w S:=(∀k,S k↔k=b)∧∃ty fz,w.heap[b]? =some (.cells cs.toArray ty fz)∧(wr=true→fz=(0,0))
 stable w w' S h hk:=by
  obtain⟨h1,ty,fz,h2,h3⟩:=h;exact⟨h1,ty,fz,(hk b ((h1 b).2 rfl)).trans h2,h3⟩
def QQ(b:Nat)(l:List UInt8)(pos:Nat):HP where
 wr:=true
 p w S:=(∀k,S k↔k=b)∧w.heap[b]? =some (.stringIter ⟨l.toArray⟩ pos)
 stable _ _ _ h hk:=⟨h.1,(hk b ((h.1 b).2 rfl)).trans h.2⟩
def QR(b t e:Nat)(bs:List Value):HP where
 wr:=true
 p w S:= ∃pv v,w.heap[b]? =some (.cells #[pv,v] t (0,0))∧(pv= .pointer none∨pv= .pointer (some ⟨b,0,none⟩))∧w.ownsRow 0 e 1 v bs.length bs∧
  v.ownBlock≠some b∧∀k,S k↔k=b∨v.ownBlock=some k
 stable w w' S h hk:=by
  obtain⟨pv,v,h1,h2,h3,h4,h5⟩:=h;refine⟨pv,v,(hk b ((h5 b).2 (.inl rfl))).trans h1,h2,⟨h3.1,?_⟩,h4,h5⟩;rcases h3.2 with hn | ⟨g,cap,cur,rfl,hB,hg,r⟩
  ·exact .inl hn
  ·exact .inr ⟨g,cap,cur,rfl,hB,(hk g ((h5 g).2 (.inr rfl))).trans hg,r⟩
def Lq(l:Nat)(r:Loop):HP where
 wr:=true
 p w S:=(∀k,S k↔k=l)∧w.heap[l]? =some (.loop r)
 stable w w' S h hk:=⟨h.1,by rw [hk l ((h.1 l).2 rfl)];exact h.2⟩
def xj(b:Nat):HP where
 wr:=true
 p w S:=(∀k,S k↔k=b)∧w.heap[b]? =some (.deferred (some []))
 stable w w' S h hk:=⟨h.1,by rw [hk b ((h.1 b).2 rfl)];exact h.2⟩
def kd(l:List Nat):HP where
 wr:=true
 p w S:=(∀k,S k↔k∈l)∧l.Nodup∧∀b,b∈l→w.heap[b]? =some (.deferred (some []))
 stable w w' S h hk:=⟨h.1,h.2.1,fun b hb=>by rw [hk b ((h.1 b).2 hb)];exact h.2.2 b hb⟩
def nD:List Nat→Nat
 | []=>0
 | x::r=>2^x*(2*nD r+1)
theorem Lr: ∀{l m:List Nat},nD l=nD m→l=m:=by
 have pos: ∀(x:Nat) (r:List Nat),0<nD (x::r):=fun x r=>Nat.mul_pos (Nat.pow_pos (by decide)) (by omega)
 have key: ∀(x y a b:Nat),2^x*(2*a+1)=2^y*(2*b+1)→x=y∧a=b:=by
  intro x
  induction x with
  | zero=>
   intro y a b h;cases y with
   | zero=>simp at h;exact⟨rfl,by omega⟩
   | succ y=>rw [Nat.pow_succ,Nat.mul_right_comm]at h;omega
  | succ x ih=>
   intro y a b h;cases y with
   | zero=>rw [Nat.pow_succ,Nat.mul_right_comm]at h;omega
   | succ y=>
    rw [Nat.pow_succ,Nat.pow_succ,Nat.mul_right_comm,Nat.mul_right_comm _ 2]at h;obtain⟨h1,h2⟩:=ih y a b (by omega);exact⟨by omega,h2⟩
 intro l
 induction l with
 | nil=>
  intro m h;cases m with
  | nil=>rfl
  | cons y s=>have:=pos y s;rw [←h]at this;simp [nD]at this
 | cons x r ih=>
  intro m h;cases m with
  | nil=>have:=pos x r;rw [h]at this;simp [nD]at this
  | cons y s=>
   obtain⟨rfl,h2⟩:=key _ _ _ _ h;rw [ih h2]
open Classical in
noncomputable def oS(n:Nat):List Nat:=if h: ∃l,nD l=n then h.choose else []
theorem nE(l:List Nat):oS (nD l)=l:=by
 have h: ∃m,nD m=nD l:=⟨l,rfl⟩;unfold oS;rw [dif_pos h];exact Lr h.choose_spec
def World.views(w:World)(v:Value)(n:Nat)(cs:List Value):Prop:=
 ∃a m c,v= .slice a m c∧m=n∧m≤c∧(a=none→n=0)∧
  ∀ad,a=some ad→(0<n→ad.spot=none)∧∀(j:Nat) u,cs[j]? =some u→w.cell? (ad.add j)=some u
def qz(n:Nat)(fz:Nat×Nat):Prop:=fz.2≤fz.1∨n≤fz.1
theorem qz.zero(n:Nat):qz n (0,0):= .inl (Nat.le_refl _)
theorem qz.off{n:Nat}{fz:Nat×Nat}(h:qz n fz){i:Nat}(hi:i<n):(decide (fz.1≤i)&&decide (i<fz.2))=false:=by
 unfold qz at h;simp;omega
def _root_.Go.World.gN(w:World)(_ s:Nat)(v:Value)(n:Nat)(cs:List Value):Prop:=
 cs.length=n*s∧((v= .slice none 0 0∧n=0)∨
  ∃g o cap cur,v= .slice (some ⟨g,o,none⟩) n cap∧(∃t' fz,w.heap[g]? =some (.cells cur t' fz)∧qz cur.size fz)∧n≤cap∧cap≤maxLen∧(0<cap→o+cap*s≤cur.size)∧(cur.toList.drop o).take (n*s)=cs)
theorem js(w:World)(t s:Nat):w.gN t s (.slice none 0 0) 0 []:=⟨by simp,.inl ⟨rfl,rfl⟩⟩
theorem Jk{w:World}{t s n:Nat}{v:Value}{cs:List Value}(h:w.ownsRow 0 t s v n cs):w.gN t s v n cs:=by
 obtain⟨hl,hr⟩:=h;refine⟨hl,?_⟩;rcases hr with hn | ⟨g,cap,cur,he,_,hg,CZ,NZ,mG,C7⟩
 ·exact .inl hn
 ·exact .inr ⟨g,0,cap,cur,he,⟨t,_,hg,.zero _⟩,CZ,NZ,by omega,by simpa using C7⟩
theorem gn{w:World}{t s n:Nat}{v:Value}{cs:List Value}(h:w.gN t s v n cs){k:Nat}(hk:v.ownBlock=some k):k<w.heap.size:=by
 rcases h.2 with⟨rfl,_⟩ | ⟨g,o,cap,cur,rfl,⟨_,_,hg,_⟩,_⟩
 ·simp [Value.ownBlock]at hk
 ·simp only [Value.ownBlock,adv]at hk;subst hk;exact(adD.1 hg).1
theorem dV(g o j:Nat):(⟨g,o,none⟩:Addr).add j=⟨g,o+j,none⟩:=by unfold Addr.add;split<;>simp_all
theorem iM{w:World}{t s n:Nat}{cs:List Value}{g o m c:Nat}(h:w.gN t s (.slice (some ⟨g,o,none⟩) m c) n cs): ∀j u,cs[j]? =some u→w.cell? ((⟨g,o,none⟩:Addr).add j)=some u:=by
 intro j u hu;rcases h.2 with⟨he,_⟩ | ⟨g',o',cap,cur,he,⟨t',fz,hgg,_⟩,_,_,_,Ls⟩
 ·simp at he
 ·simp only [Value.slice.injEq,adv,Addr.mk.injEq,and_true]at he;obtain⟨⟨rfl,rfl⟩,_⟩:=he;rw [dV,cell_of_row w g (o+j) cur t' fz hgg];rw [←Ls,List.getElem?_take]at hu;split at hu
  ·rw [List.getElem?_drop]at hu;simpa using hu
  ·cases hu
def au(md:Bool)(t s:Nat)(v:Value)(n:Nat)(cs:List Value):HP where
 wr:=md
 p w S:=(if md then w.gN t s v n cs else cs.length=n*s∧World.views w v n cs)∧∀k,S k↔v.ownBlock=some k∧(md=true∨0<n)
 stable w w' S h hk:=by
  refine⟨?_,h.2⟩;obtain⟨h0,h2⟩:=h;cases md with
  | true=>
   simp only [if_true]at h0 ⊢;obtain⟨hl,hr⟩:=h0;refine⟨hl,?_⟩;rcases hr with hn | ⟨g,o,cap,cur,rfl,⟨t',fz,hg,hz⟩,rest⟩
   ·exact .inl hn
   ·refine .inr ⟨g,o,cap,cur,rfl,⟨t',fz,?_,hz⟩,rest⟩;rw [hk g ((h2 g).2 ⟨by simp [Value.ownBlock],.inl rfl⟩)];exact hg
  | false=>
   simp only [Bool.false_eq_true,if_false]at h0 ⊢;obtain⟨hl,a,m,c,rfl,hm,OQ,ke,hc⟩:=h0;refine⟨hl,a,m,c,rfl,hm,OQ,ke,fun ad oC=>⟨(hc ad oC).1,fun j u hu=>?_⟩⟩;subst oC;have:=(hc ad rfl).2 j u hu;have hn:0<n:=by
    apply Nat.pos_of_ne_zero;rintro rfl;have mG:cs=[]:=adR (by simpa using hl);rw [mG]at hu;simp at hu
   have hb:=hk ad.block ((h2 ad.block).2 ⟨by simp [Value.ownBlock],.inr hn⟩);have kf:(ad.add j).block=ad.block:=by unfold Addr.add;split<;>rfl
   simpa [World.cell?,kf,hb] using this
def dS(agg:Bool)(kl:List IntKind)(ks:List Int):Value:=
 if agg then .agg ((kl.zip ks).map fun x=> .int x.1 x.2).toArray else
 match kl,ks with
 | [k],[n]=> .int k n
 | _,_=> .nilIface
def xl(agg:Bool)(cs:List Value):Value:=
 if agg then .agg cs.toArray else cs.headD .nilIface
structure TY (es:List MapEntry) (kl:List IntKind) (ka va:Bool) (has:Nat→Bool) (row:Nat→List Value):Prop where
 keys: ∀e∈es,∃ks:List Int,ks.length=kl.length∧e.key=dS ka kl ks∧has (cI ks)=true∧e.val=xl va (row (cI ks))
 once: ∀(i j:Nat) e e',es[i]? =some e→es[j]? =some e'→e.key=e'.key→i=j
 all: ∀ks:List Int,ks.length=kl.length→has (cI ks)=true→∃e∈es,e.key=dS ka kl ks
def uJ(b:Nat)(kl:List IntKind)(ka va:Bool)(zero:List Value)(has:Nat→Bool)(row:Nat→List Value):HP where
 wr:=true
 p w S:=(∀k,S k↔k=b)∧(∃es clock,w.heap[b]? =some (.map es clock)∧TY es.toList kl ka va has row)∧
  (∀ks:List Int,ks.length=kl.length→has (cI ks)=false→row (cI ks)=zero)
 stable w w' S h hk:=by
  refine⟨h.1,?_,h.2.2⟩;obtain⟨es,clock,h1,h2⟩:=h.2.1;exact⟨es,clock,by rw [hk b ((h.1 b).2 rfl)];exact h1,h2⟩
def xm(n:Nat)(w0:World):HP where
 wr:=false
 p w S:=(∀k,S k↔k<n)∧∀k,k<n→w.heap[k]? =w0.heap[k]?
 stable _ _ _ h hk:=⟨h.1,fun k hn=>(hk k ((h.1 k).2 hn)).trans (h.2 k hn)⟩
end Go.RX
