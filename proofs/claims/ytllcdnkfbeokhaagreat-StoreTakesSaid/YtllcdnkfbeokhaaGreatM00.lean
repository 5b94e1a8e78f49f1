/- Executor. -/
import Derived.OrdersIn
import Derived.WalkKit
open Array renaming getElem?_eq_some_iff → aqw
open Int renaming toNat_natCast → aqD
open List renaming eq_nil_of_length_eq_zero → aqF, getElem?_eq_none → aq3, getElem?_eq_some_iff → aqo, getElem?_set_ne → aqO
open Nat renaming lt_of_lt_of_le → aqz
open Option.some renaming injEq → aqp
namespace Go.RX
inductive YM where
 | add | sub | mul | quo | rem | fJ | cz | cy | QT | shl | shr | ib | imax
 deriving DecidableEq,Repr
inductive E where
 | lit (n:Int)
 | var (i:Nat)
 | cI (i:Nat)
 | Qk (a i:E)
 | bin (o:YM) (k:IntKind) (a b:E)
 | wrap (k:IntKind) (a:E)
 | m7 (a i v:E)
 | shift (a o:E)
 | jl (a o n b:E)
 | kc (n:Nat) (a:E)
 | sA (b:Nat)
 | pV (l:List Int)
 | QU (a i:E)
 | qi (a i s:E)
 | TB (s:E)
 deriving DecidableEq,Repr,Inhabited
inductive BE where
 | lit (b:Bool)
 | var (i:Nat)
 | eq (a b:E)
 | lt (a b:E)
 | le (a b:E)
 | nz (a:E)
 | TC (n:Nat) (a b:E)
 | not (a:BE)
 | and (a b:BE)
 | or (a b:BE)
 | ite (c t e:BE)
 | seq (a b:E)
 | BP (i:Nat)
 deriving DecidableEq,Repr,Inhabited
structure HP where
 wr:Bool
 p:World→(Nat→Prop)→Prop
 eY: ∀w w' S,p w S→(∀k,S k→w'.heap[k]? =w.heap[k]?)→p w' S
structure V1 where
 v:Value
 one:v.oneCell'=true
def V1.nil:V1:=⟨.nilIface,rfl⟩
structure Env where
 iv:List Int:=[]
 av:List (Nat→Int):=[]
 bo:List Bool:=[]
 bv:List Nat:=[]
 vv:List V1:=[]
 va:List (Nat→V1):=[]
 pv:List HP:=[]
 lr:List Loop:=[]
def Mj(o:YM)(k:IntKind)(x y:Int):Int:=
 let a:=BitVec.ofInt k.bits x
 let b:=BitVec.ofInt k.bits y
 match o with
 | .fJ=>k.wrap (a &&& b).toNat
 | .cz=>k.wrap (a|||b).toNat
 | .cy=>k.wrap (a^^^b).toNat
 | _=>k.wrap (a &&& ~~~b).toNat
def ar(o:YM)(k:IntKind)(x y:Int):Int:=
 match o with
 | .add=>x+y
 | .sub=>x - y
 | .mul=>x*y
 | .quo=>x.tdiv y
 | .rem=>x.tmod y
 | .ib=>if y<x then y else x
 | .imax=>if x<y then y else x
 | .shl=>k.wrap (x*2^(min y.toNat k.bits))
 | .shr=>x.fdiv (2^(min y.toNat k.bits))
 | o=>Mj o k x y
def Jn:Int→Nat
 | .ofNat n=>2*n
 | .negSucc n=>2*n+1
def sB(acc:Nat)(z:Int):Nat:=(2*(acc*2^((Jn z).log2+1)+Jn z)+1)*2^((Jn z).log2+1)
def aS(l:List Int):Nat:=l.foldl sB 0
def dc(f:Nat→Int):List UInt8:=(List.range (f 0).toNat).map fun j=>UInt8.ofNat (f (j+1)).toNat
def Jo(l:List UInt8):Nat→Int
 | 0=>l.length
 | j+1=>((l.getD j 0).toNat:Nat)
theorem ou(l:List UInt8):dc (Jo l)=l:=by
 apply List.ext_getElem?;intro j;simp only [dc,Jo,aqD,List.getElem?_map];by_cases h:j<l.length
 ·rw [List.getElem?_range h,List.getElem?_eq_getElem h];simp [List.getD,List.getElem?_eq_getElem h]
 ·rw [aq3 (by simp;omega),aq3 (by omega)];rfl
theorem cS(f:Nat→Int):(dc f).length=(f 0).toNat:=by simp [dc]
def two:Nat→Nat→Nat×Nat
 | 0,k=>(0,k)
 | d+1,k=>if k%2=1 then(0,k/2)else((two d (k/2)).1+1,(two d (k/2)).2)
def nj(i j:Nat):Nat:=2^i*(2*j+1)
theorem Dv: ∀(i j d:Nat),i<d→two d (nj i j)=(i,j)
 | 0,j,d+1,_=>by unfold two nj;rw [if_pos (by omega)];congr 1;omega
 | i+1,j,d+1,h=>by
  have e:nj (i+1) j=2*nj i j:=by unfold nj;rw [Nat.pow_succ,Nat.mul_comm (2^i) 2,Nat.mul_assoc]
  unfold two;rw [if_neg (by rw [e];omega),e,Nat.mul_div_cancel_left _ (by decide),Dv i j d (by omega)]
def dA(k:Nat):Nat×Nat:=two k k
theorem nk(i j:Nat):dA (nj i j)=(i,j):=by
 apply Dv;unfold nj;have h1:i<2^i:=Nat.lt_two_pow_self;have h2:2^i*1≤2^i*(2*j+1):=Nat.mul_le_mul_left _ (by omega);omega
def pW(f:Nat→Int)(i:Nat):Nat→Int:=fun j=>f (nj i j)
def Dw(f:Nat→Int)(i:Nat)(s:Nat→Int):Nat→Int:=fun k=>if(dA k).1=i then s (dA k).2 else f k
theorem jX(f:Nat→Int)(i j:Nat)(s:Nat→Int):pW (Dw f i s) j=if j=i then s else pW f j:=by
 funext k;simp only [pW,Dw,nk];split<;>rfl
def Jp(f:Nat→Int):Nat→Int:=fun j=>((UInt8.ofNat (f (j+1)).toNat).toNat:Nat)
def E.den(ρ:Env):E→Nat→Int
 | .lit n=>fun _=>n
 | .var i=>fun _=>ρ.iv.getD i 0
 | .cI i=>ρ.av.getD i (fun _=>0)
 | .Qk a i=>fun _=>a.den ρ (i.den ρ 0).toNat
 | .bin o k a b=>fun _=>ar o k (a.den ρ 0) (b.den ρ 0)
 | .wrap k a=>fun _=>k.wrap (a.den ρ 0)
 | .m7 a i v=>fun j=>if j=(i.den ρ 0).toNat then v.den ρ 0 else a.den ρ j
 | .shift a o=>fun j=>a.den ρ ((o.den ρ 0).toNat+j)
 | .jl a o n b=>fun j=>if(o.den ρ 0).toNat≤j∧j<(o.den ρ 0).toNat+(n.den ρ 0).toNat then b.den ρ (j - (o.den ρ 0).toNat)else a.den ρ j
 | .kc n a=>fun _=>(aS ((List.range n).map (a.den ρ)):Nat)
 | .sA b=>fun _=>(ρ.bv.getD b 0:Nat)+1
 | .pV l=>fun j=>l.getD j 0
 | .QU a i=>pW (a.den ρ) (i.den ρ 0).toNat
 | .qi a i s=>Dw (a.den ρ) (i.den ρ 0).toNat (s.den ρ)
 | .TB s=>Jp (s.den ρ)
abbrev E.i(ρ:Env)(e:E):Int:=e.den ρ 0
def yr(v:Value)(k n:Nat):Value:=
 match v with
 | .slice (some a) _ _=> .slice (some (a.add k)) n n
 | _=> .slice none 0 0
def wu:Value→Bool
 | .slice none _ _=>true
 | _=>false
def BE.den(ρ:Env):BE→Bool
 | .lit b=>b
 | .var i=>ρ.bo.getD i false
 | .eq a b=>a.den ρ 0==b.den ρ 0
 | .lt a b=>decide (a.den ρ 0<b.den ρ 0)
 | .le a b=>decide (a.den ρ 0≤b.den ρ 0)
 | .nz a=> !(a.den ρ 0==0)
 | .TC n a b=>(List.range n).all fun j=>a.den ρ j==b.den ρ j
 | .not a=> !a.den ρ
 | .and a b=>a.den ρ&&b.den ρ
 | .or a b=>a.den ρ||b.den ρ
 | .ite c t e=>if c.den ρ then t.den ρ else e.den ρ
 | .seq a b=>dc (a.den ρ)==dc (b.den ρ)
 | .BP i=>wu (ρ.vv.getD i V1.nil).v
def BE.prop(ρ:Env):BE→Prop
 | .lit b=>b=true
 | .var i=>ρ.bo.getD i false=true
 | .eq a b=>a.den ρ 0=b.den ρ 0
 | .lt a b=>a.den ρ 0<b.den ρ 0
 | .le a b=>a.den ρ 0≤b.den ρ 0
 | .nz a=>a.den ρ 0≠0
 | .TC n a b=> ∀j,j<n→a.den ρ j=b.den ρ j
 | .not a=> ¬a.prop ρ
 | .and a b=>a.prop ρ∧b.prop ρ
 | .or a b=>a.prop ρ∨b.prop ρ
 | .ite c t e=>(c.prop ρ→t.prop ρ)∧(¬c.prop ρ→e.prop ρ)
 | .seq a b=>dc (a.den ρ)=dc (b.den ρ)
 | .BP i=>wu (ρ.vv.getD i V1.nil).v=true
theorem BE.bK(ρ:Env)(b:BE):b.den ρ=true↔b.prop ρ:=by
 induction b with
 | lit b=>rfl
 | var i=>rfl
 | eq a b=>simp [BE.den,BE.prop]
 | lt a b=>simp [BE.den,BE.prop]
 | le a b=>simp [BE.den,BE.prop]
 | nz a=>simp [BE.den,BE.prop]
 | TC n a b=>simp [BE.den,BE.prop]
 | not a ih=>simp [BE.den,BE.prop,←ih]
 | and a b lC qj=>simp [BE.den,BE.prop,lC,qj]
 | or a b lC qj=>simp [BE.den,BE.prop,lC,qj]
 | ite c t e ihc FL FM=>
  simp only [BE.den,BE.prop,←ihc,←FL,←FM];cases c.den ρ<;>simp
 | seq a b=>simp [BE.den,BE.prop]
 | BP i=>rfl
structure Cut where
 lo:E
 hi:E
 mx:Option E
 deriving DecidableEq,Repr,Inhabited
inductive SV where
 | int (k:IntKind) (e:E)
 | bool (b:BE)
 | cg | bu | jS | ov | m9 | undef
 | ptr (b c:Nat)
 | pX (b:Nat) (i:E) (s c:Nat)
 | pv (v:Nat) (i:E) (s c:Nat)
 | sl (b:Nat) (i:E) (s:Nat) (n m:E)
 | vv (i:Nat)
 | str (l:List UInt8)
 | fn (f:Nat) (iR:List SV)
 | fm (f:Nat) (first:List SV)
 | agg (cs:List SV)
 | cQ (k:IntKind) (n:Nat) (a:E)
 | nO (vs:List SV)
 | opt (c:BE) (v:SV)
 | Dx (a:Nat) (i:E)
 | Jq (l:Nat)
 | mp (b:Nat)
 | jo (v:Nat) (cs:List Cut) (s:Nat)
 | ji (e:E)
 | lD (s:E)
 | Ga (c:BE) (v:Nat)
 | Mk (t:Nat) (k:IntKind) (e:E)
 | QV (t b c:Nat)
 | Ml (v:Nat) (i:E) (s c n:Nat)
 | Ia (e:E)
 deriving Repr,Inhabited
def aj(k:IntKind)(n:Nat)(f:Nat→Int):List Value:=(List.range n).map fun j=> .int k (f j)
def ft(v:Value)(n:Nat):Value:=
 match v with
 | .slice (some a) _ _=> .pointer (some (a.add n))
 | _=> .pointer none
def aE(s:Nat)(v:Value)(lo hi:Nat)(mx:Option Nat):Value:=
 match v with
 | .slice a _ c=> .slice (if mx.getD c=lo then a else a.map (·.add (lo*s))) (hi - lo) (mx.getD c - lo)
 | _=> .nilIface
theorem bT(s:Nat)(v:Value)(lo hi:Nat)(mx:Option Nat):(aE s v lo hi mx).oneCell'=true:=by
 unfold aE;split<;>rfl
def dD(ρ:Env)(s:Nat)(v:Value):List Cut→Value
 | []=>v
 | c::r=>dD ρ s (aE s v (c.lo.den ρ 0).toNat (c.hi.den ρ 0).toNat (c.mx.map fun m=>(m.den ρ 0).toNat)) r
theorem nP(ρ:Env)(s:Nat): ∀(cs:List Cut) (v:Value),v.oneCell'=true→(dD ρ s v cs).oneCell'=true
 | [],_,h=>h
 | _::r,_,_=>nP ρ s r _ (bT ..)
theorem ow(ρ:Env)(s:Nat): ∀(a b:List Cut) (v:Value),dD ρ s v (a++b)=dD ρ s (dD ρ s v a) b
 | [],_,_=>rfl
 | _::r,b,_=>ow ρ s r b _
def cA(z:Int):Value:=if z=0 then .pointer none else .pointer (some ⟨(z - 1).toNat,0,none⟩)
theorem eF(b:Nat):cA ((b:Nat)+1)= .pointer (some ⟨b,0,none⟩):=by
 unfold cA;rw [if_neg (by omega),show((b:Int)+1 - 1).toNat=b by omega]
theorem Dy(z:Int):(cA z).oneCell'=true:=by unfold cA;split<;>rfl
def YN(q:Nat):Value:=if(dA q).1=0 then .slice none (dA (dA q).2).1 (dA (dA q).2).2 else
 .slice (some ⟨(dA q).1 - 1,(dA (dA q).2).1,some (dA (dA (dA q).2).2).1⟩) (dA (dA (dA (dA q).2).2).2).1 (dA (dA (dA (dA q).2).2).2).2
def cX(z:Int):Value:=if z=0 then .slice none 0 0 else if z<0 then YN (-z).toNat else
 .slice (some ⟨(dA z.toNat).1,(dA (dA z.toNat).2).1,none⟩) (dA (dA (dA z.toNat).2).2).1 (dA (dA (dA z.toNat).2).2).2
def UJ(b o n c:Nat):Int:=(nj b (nj o (nj n c)):Nat)
theorem Jr(i j:Nat):0<nj i j:=Nat.mul_pos (Nat.two_pow_pos i) (by omega)
theorem Mm:cX 0= .slice none 0 0:=rfl
theorem Js(b o n c:Nat):cX (UJ b o n c)= .slice (some ⟨b,o,none⟩) n c:=by
 have:=Jr b (nj o (nj n c));unfold cX UJ;rw [if_neg (by omega),if_neg (by omega),aqD,nk,nk,nk]
theorem mA(z:Int):(cX z).oneCell'=true:=by
 unfold cX;split
 ·rfl
 ·split
  ·unfold YN;split<;>rfl
  ·rfl
def tA(x:Value):Value:=
 match x with
 | .iface t v=> .iface t v
 | x=> .iface 0 x
mutual
def SV.val(ρ:Env):SV→Value
 | .int k e=> .int k (e.den ρ 0)
 | .bool b=> .bool (b.den ρ)
 | .cg=> .pointer none
 | .bu=> .slice none 0 0
 | .jS=> .nilFunc
 | .ov=> .nilIface
 | .m9=> .map none
 | .undef=>Go.undef
 | .ptr b c=> .pointer (some ⟨ρ.bv.getD b 0,c,none⟩)
 | .pX b i s c=> .pointer (some ⟨ρ.bv.getD b 0,(i.den ρ 0).toNat*s+c,none⟩)
 | .pv v i s c=>ft (ρ.vv.getD v V1.nil).v ((i.den ρ 0).toNat*s+c)
 | .sl b i s n m=> .slice (some ⟨ρ.bv.getD b 0,(i.den ρ 0).toNat*s,none⟩) (n.den ρ 0).toNat (m.den ρ 0).toNat
 | .vv i=>(ρ.vv.getD i V1.nil).v
 | .str l=> .string ⟨l.toArray⟩
 | .fn f iR=> .func (.func f) #[] (SV.bD ρ iR).toArray
 | .fm f first=> .func (.func f) (SV.bD ρ first).toArray #[]
 | .agg cs=> .agg (SV.ao ρ cs).toArray
 | .cQ k n a=> .agg (aj k n (a.den ρ)).toArray
 | .nO vs=> .tuple (SV.bD ρ vs).toArray
 | .opt c v=>if c.den ρ then v.val ρ else Go.undef
 | .Dx a i=>((ρ.va.getD a fun _=>V1.nil) (i.den ρ 0).toNat).v
 | .Jq l=> .func (.yield (ρ.bv.getD l 0)) #[] #[]
 | .mp b=> .map (some (ρ.bv.getD b 0))
 | .jo v cs s=>dD ρ s (ρ.vv.getD v V1.nil).v cs
 | .ji e=>cA (e.den ρ 0)
 | .lD s=> .string ⟨(dc (s.den ρ)).toArray⟩
 | .Ga c v=>if c.den ρ then tA (ρ.vv.getD v V1.nil).v else .nilIface
 | .Mk t k e=> .iface t (.int k (e.den ρ 0))
 | .QV t b c=> .iface t (.pointer (some ⟨ρ.bv.getD b 0,c,none⟩))
 | .Ml v i s c n=>yr (ρ.vv.getD v V1.nil).v ((i.den ρ 0).toNat*s+c) n
 | .Ia e=>cX (e.den ρ 0)
def SV.bD(ρ:Env):List SV→List Value
 | []=>[]
 | v::r=>v.val ρ::SV.bD ρ r
def SV.ao(ρ:Env):List SV→List Value
 | []=>[]
 | v::r=>SV.cells ρ v++SV.ao ρ r
def SV.cells(ρ:Env):SV→List Value
 | .agg cs=>SV.ao ρ cs
 | .cQ k n a=>aj k n (a.den ρ)
 | .int k e=>[.int k (e.den ρ 0)]
 | .bool b=>[.bool (b.den ρ)]
 | .cg=>[.pointer none]
 | .bu=>[.slice none 0 0]
 | .jS=>[.nilFunc]
 | .ov=>[.nilIface]
 | .m9=>[.map none]
 | .undef=>[Go.undef]
 | .ptr b c=>[.pointer (some ⟨ρ.bv.getD b 0,c,none⟩)]
 | .pX b i s c=>[.pointer (some ⟨ρ.bv.getD b 0,(i.den ρ 0).toNat*s+c,none⟩)]
 | .pv v i s c=>[ft (ρ.vv.getD v V1.nil).v ((i.den ρ 0).toNat*s+c)]
 | .sl b i s n m=>[.slice (some ⟨ρ.bv.getD b 0,(i.den ρ 0).toNat*s,none⟩) (n.den ρ 0).toNat (m.den ρ 0).toNat]
 | .vv i=>[(ρ.vv.getD i V1.nil).v]
 | .str l=>[.string ⟨l.toArray⟩]
 | .fn f iR=>[.func (.func f) #[] (SV.bD ρ iR).toArray]
 | .fm f first=>[.func (.func f) (SV.bD ρ first).toArray #[]]
 | .nO vs=>[.tuple (SV.bD ρ vs).toArray]
 | .opt c v=>[if c.den ρ then v.val ρ else Go.undef]
 | .Dx a i=>[((ρ.va.getD a fun _=>V1.nil) (i.den ρ 0).toNat).v]
 | .Jq l=>[.func (.yield (ρ.bv.getD l 0)) #[] #[]]
 | .mp b=>[.map (some (ρ.bv.getD b 0))]
 | .jo v cs s=>[dD ρ s (ρ.vv.getD v V1.nil).v cs]
 | .ji e=>[cA (e.den ρ 0)]
 | .lD s=>[.string ⟨(dc (s.den ρ)).toArray⟩]
 | .Ga c v=>[if c.den ρ then tA (ρ.vv.getD v V1.nil).v else .nilIface]
 | .Mk t k e=>[.iface t (.int k (e.den ρ 0))]
 | .QV t b c=>[.iface t (.pointer (some ⟨ρ.bv.getD b 0,c,none⟩))]
 | .Ml v i s c n=>[yr (ρ.vv.getD v V1.nil).v ((i.den ρ 0).toNat*s+c) n]
 | .Ia e=>[cX (e.den ρ 0)]
end
structure ic (w w':World):Prop where
 os:w'.os=w.os
 tape:w'.tape=w.tape
 output:w'.output=w.output
 size:w.heap.size≤w'.heap.size
theorem ic.refl(w:World):ic w w:=⟨rfl,rfl,rfl,Nat.le_refl _⟩
theorem ic.trans{a b c:World}(h:ic a b)(k:ic b c):ic a c:=
 ⟨k.os.trans h.os,k.tape.trans h.tape,k.output.trans h.output,Nat.le_trans h.size k.size⟩
structure Sep (hs:List HP) (S:Nat→Nat→Prop) (w:World):Prop where
 at_: ∀i h,hs[i]? =some h→h.p w (S i)∧∀k,S i k→k<w.heap.size
 apart: ∀i j hi hj,i≠j→hs[i]? =some hi→hs[j]? =some hj→(hi.wr=true∨hj.wr=true)→∀k,S i k→¬S j k
def bG(hs:List HP)(w:World):Prop:= ∃S,Sep hs S w
def HP.emp:HP:=⟨false,fun _ S=> ∀k,¬S k,fun _ _ _ h _=>h⟩
theorem bG.pick{hs:List HP}{w:World}(h:bG hs w)(idx:List Nat)(kT:List HP)(gV:idx.Nodup)
  (he: ∀j:Nat,kT[j]? =(idx[j]?).bind (fun i=>hs[i]?)):bG kT w:=by
 obtain⟨S,hS⟩:=h;refine⟨fun j=>S (idx.getD j 0),⟨?_,?_⟩⟩
 ·intro j x hx;rw [he]at hx;cases hj:idx[j]? with
  | none=>simp [hj]at hx
  | some i=>
   simp only [hj,Option.bind_some]at hx;have:idx.getD j 0=i:=by simp [List.getD,hj]
   rw [this];exact hS.at_ i x hx
 ·intro i j hi hj fg TD hxj hw k;rw [he]at TD hxj;cases dy:idx[i]? with
  | none=>simp [dy]at TD
  | some ii=>
   cases lO:idx[j]? with
   | none=>simp [lO]at hxj
   | some jj=>
    simp only [dy,lO,Option.bind_some]at TD hxj;have e1:idx.getD i 0=ii:=by simp [List.getD,dy]
    have e2:idx.getD j 0=jj:=by simp [List.getD,lO]
    rw [e1,e2];refine hS.apart ii jj hi hj ?_ TD hxj hw k;intro e;subst e;rw [aqo]at dy lO;obtain⟨a1,b1⟩:=dy;obtain⟨a2,b2⟩:=lO;have hpw:=List.pairwise_iff_getElem.1 gV;rcases Nat.lt_or_gt_of_ne fg with h | h
    ·exact hpw i j a1 a2 h (b1.trans b2.symm)
    ·exact hpw j i a2 a1 h (b2.trans b1.symm)
theorem Sep.step{hs:List HP}{S:Nat→Nat→Prop}{w w':World}(h:Sep hs S w)(i:Nat)(h0 h':HP)(hi:hs[i]? =some h0)(hw:h0.wr=true)
  (S':Nat→Prop) (jY:w.heap.size≤w'.heap.size) (tB: ∀k,k<w.heap.size→¬S i k→w'.heap[k]? =w.heap[k]?)
  (hp:h'.p w' S') (eJ: ∀k,S' k→S i k∨(w.heap.size≤k∧k<w'.heap.size)):
  Sep (hs.set i h') (fun j=>if j=i then S' else S j) w':=by
 have cq:i<hs.length:=(aqo.1 hi).1;refine⟨?_,?_⟩
 ·intro j x hx;by_cases hj:j=i
  ·subst hj;rw [List.getElem?_set_self cq]at hx;cases hx;simp only [if_true];refine⟨hp,fun k hk=>?_⟩;rcases eJ k hk with h1 | h1
   ·exact aqz ((h.at_ _ _ hi).2 k h1) jY
   ·exact h1.2
  ·rw [aqO (Ne.symm hj)]at hx;simp only [hj,if_false];obtain⟨hpx,hb⟩:=h.at_ j x hx;refine⟨x.eY w w' _ hpx fun k hk=>tB k (hb k hk) ?_,fun k hk=>aqz (hb k hk) jY⟩;exact fun hik=>h.apart i j h0 x (Ne.symm hj) hi hx (.inl hw) k hik hk
 ·intro a b ha hb fg FN Jt uS k;by_cases QW:a=i
  ·subst QW;have hbi:b≠a:=Ne.symm fg;rw [aqO fg]at Jt;simp only [if_true,hbi,if_false];intro hk LB;rcases eJ k hk with h1 | h1
   ·exact h.apart a b h0 hb fg hi Jt (.inl hw) k h1 LB
   ·exact absurd ((h.at_ b hb Jt).2 k LB) (by omega)
  ·rw [aqO (Ne.symm QW)]at FN;by_cases UK:b=i
   ·subst UK;simp only [if_true,QW,if_false];intro hk LB;rcases eJ k LB with h1 | h1
    ·exact h.apart a b ha h0 fg FN hi (.inr hw) k hk h1
    ·exact absurd ((h.at_ a ha FN).2 k hk) (by omega)
   ·rw [aqO (Ne.symm UK)]at Jt;simp only [QW,UK,if_false];exact h.apart a b ha hb fg FN Jt uS k
theorem Sep.UL{hs:List HP}{S:Nat→Nat→Prop}{w w':World}(h:Sep hs S w)(jY:w.heap.size≤w'.heap.size)
  (tB: ∀k,k<w.heap.size→w'.heap[k]? =w.heap[k]?):Sep hs S w':=by
 refine⟨fun i x hx=>?_,h.apart⟩;obtain⟨hp,hb⟩:=h.at_ i x hx;exact⟨x.eY w w' _ hp fun k hk=>tB k (hb k hk),fun k hk=>aqz (hb k hk) jY⟩
theorem Sep.new{hs:List HP}{S:Nat→Nat→Prop}{w w':World}(h:Sep hs S w)(i:Nat)(h':HP)(hi:hs[i]? =some HP.emp)
  (S':Nat→Prop) (jY:w.heap.size≤w'.heap.size) (tB: ∀k,k<w.heap.size→w'.heap[k]? =w.heap[k]?)
  (hp:h'.p w' S') (eJ: ∀k,S' k→w.heap.size≤k∧k<w'.heap.size):
  Sep (hs.set i h') (fun j=>if j=i then S' else S j) w':=by
 have cq:i<hs.length:=(aqo.1 hi).1;refine⟨?_,?_⟩
 ·intro j x hx;by_cases hj:j=i
  ·subst hj;rw [List.getElem?_set_self cq]at hx;cases hx;simp only [if_true];exact⟨hp,fun k hk=>(eJ k hk).2⟩
  ·rw [aqO (Ne.symm hj)]at hx;simp only [hj,if_false];obtain⟨hpx,hb⟩:=h.at_ j x hx;exact⟨x.eY w w' _ hpx fun k hk=>tB k (hb k hk),fun k hk=>aqz (hb k hk) jY⟩
 ·intro a b ha hb fg FN Jt uS k;by_cases QW:a=i
  ·subst QW;have hbi:b≠a:=Ne.symm fg;rw [aqO fg]at Jt;simp only [if_true,hbi,if_false];intro hk LB;have:=(h.at_ b hb Jt).2 k LB;have:=eJ k hk;omega
  ·rw [aqO (Ne.symm QW)]at FN;by_cases UK:b=i
   ·subst UK;simp only [if_true,QW,if_false];intro hk LB;have:=(h.at_ a ha FN).2 k hk;have:=eJ k LB;omega
   ·rw [aqO (Ne.symm UK)]at Jt;simp only [QW,UK,if_false];exact h.apart a b ha hb fg FN Jt uS k
def ak(b:Nat)(wr:Bool)(cs:List Value):HP where
 wr:=wr
 p w S:=(∀k,S k↔k=b)∧∃ty fz,w.heap[b]? =some (.cells cs.toArray ty fz)∧(wr=true→fz=(0,0))
 eY w w' S h hk:=by
  obtain⟨h1,ty,fz,h2,h3⟩:=h;exact⟨h1,ty,fz,(hk b ((h1 b).2 rfl)).trans h2,h3⟩
def TE(b:Nat)(l:List UInt8)(pos:Nat):HP where
 wr:=true
 p w S:=(∀k,S k↔k=b)∧w.heap[b]? =some (.stringIter ⟨l.toArray⟩ pos)
 eY _ _ _ h hk:=⟨h.1,(hk b ((h.1 b).2 rfl)).trans h.2⟩
def TF(b m:Nat):HP where
 wr:=true
 p w S:=(∀k,S k↔k=b)∧∃c,w.heap[b]? =some (.mapIter (some m) c #[] c)
 eY _ _ _ h hk:=by
  obtain⟨h1,c,h2⟩:=h;exact⟨h1,c,(hk b ((h1 b).2 rfl)).trans h2⟩
def TG(b t e:Nat)(bs:List Value):HP where
 wr:=true
 p w S:= ∃pv v,w.heap[b]? =some (.cells #[pv,v] t (0,0))∧(pv= .pointer none∨pv= .pointer (some ⟨b,0,none⟩))∧w.ownsRow 0 e 1 v bs.length bs∧
  v.ownBlock≠some b∧∀k,S k↔k=b∨v.ownBlock=some k
 eY w w' S h hk:=by
  obtain⟨pv,v,h1,h2,h3,h4,h5⟩:=h;refine⟨pv,v,(hk b ((h5 b).2 (.inl rfl))).trans h1,h2,⟨h3.1,?_⟩,h4,h5⟩;rcases h3.2 with hn | ⟨g,cap,cur,rfl,hB,hg,r⟩
  ·exact .inl hn
  ·exact .inr ⟨g,cap,cur,rfl,hB,(hk g ((h5 g).2 (.inr rfl))).trans hg,r⟩
def Mn(l:Nat)(r:Loop):HP where
 wr:=true
 p w S:=(∀k,S k↔k=l)∧w.heap[l]? =some (.loop r)
 eY w w' S h hk:=⟨h.1,by rw [hk l ((h.1 l).2 rfl)];exact h.2⟩
def yu(b:Nat):HP where
 wr:=true
 p w S:=(∀k,S k↔k=b)∧w.heap[b]? =some (.deferred (some []))
 eY w w' S h hk:=⟨h.1,by rw [hk b ((h.1 b).2 rfl)];exact h.2⟩
def lE(l:List Nat):HP where
 wr:=true
 p w S:=(∀k,S k↔k∈l)∧l.Nodup∧∀b,b∈l→w.heap[b]? =some (.deferred (some []))
 eY w w' S h hk:=⟨h.1,h.2.1,fun b hb=>by rw [hk b ((h.1 b).2 hb)];exact h.2.2 b hb⟩
def oX:List Nat→Nat
 | []=>0
 | x::r=>2^x*(2*oX r+1)
theorem Mo: ∀{l m:List Nat},oX l=oX m→l=m:=by
 have pos: ∀(x:Nat) (r:List Nat),0<oX (x::r):=fun x r=>Nat.mul_pos (Nat.pow_pos (by decide)) (by omega)
 have key: ∀(x y a b:Nat),2^x*(2*a+1)=2^y*(2*b+1)→x=y∧a=b:=by
  intro x
  induction x with
  | zero=>
   intro y a b h;cases y with
   | zero=>simp at h;exact⟨rfl,by omega⟩
   | succ y=>rw [Nat.pow_succ,Nat.mul_right_comm]at h;omega
  | succ x ih=>
   intro y a b h;cases y with
   | zero=>rw [Nat.pow_succ,Nat.mul_right_comm]at h;omega
   | succ y=>
    rw [Nat.pow_succ,Nat.pow_succ,Nat.mul_right_comm,Nat.mul_right_comm _ 2]at h;obtain⟨h1,h2⟩:=ih y a b (by omega);exact⟨by omega,h2⟩
 intro l
 induction l with
 | nil=>
  intro m h;cases m with
  | nil=>rfl
  | cons y s=>have:=pos y s;rw [←h]at this;simp [oX]at this
 | cons x r ih=>
  intro m h;cases m with
  | nil=>have:=pos x r;rw [h]at this;simp [oX]at this
  | cons y s=>
   obtain⟨rfl,h2⟩:=key _ _ _ _ h;rw [ih h2]
open Classical in
noncomputable def qk(n:Nat):List Nat:=if h: ∃l,oX l=n then h.choose else []
theorem oY(l:List Nat):qk (oX l)=l:=by
 have h: ∃m,oX m=oX l:=⟨l,rfl⟩;unfold qk;rw [dif_pos h];exact Mo h.choose_spec
def World.views(w:World)(v:Value)(n:Nat)(cs:List Value):Prop:=
 ∃a m c,v= .slice a m c∧m=n∧m≤c∧(a=none→n=0)∧
  ∀ad,a=some ad→(0<n→ad.spot=none)∧∀(j:Nat) u,cs[j]? =some u→w.cell? (ad.add j)=some u
def qh(n:Nat)(fz:Nat×Nat):Prop:=fz.2≤fz.1∨n≤fz.1
theorem qh.zero(n:Nat):qh n (0,0):= .inl (Nat.le_refl _)
theorem qh.off{n:Nat}{fz:Nat×Nat}(h:qh n fz){i:Nat}(hi:i<n):(decide (fz.1≤i)&&decide (i<fz.2))=false:=by
 unfold qh at h;simp;omega
def _root_.Go.World.jk(w:World)(_ s:Nat)(v:Value)(n:Nat)(cs:List Value):Prop:=
 cs.length=n*s∧((v= .slice none 0 0∧n=0)∨
  ∃g o cap cur,v= .slice (some ⟨g,o,none⟩) n cap∧(∃t' fz,w.heap[g]? =some (.cells cur t' fz)∧qh cur.size fz)∧n≤cap∧cap≤maxLen∧(0<cap→o+cap*s≤cur.size)∧(cur.toList.drop o).take (n*s)=cs)
theorem mB(w:World)(t s:Nat):w.jk t s (.slice none 0 0) 0 []:=⟨by simp,.inl ⟨rfl,rfl⟩⟩
theorem Ju{w:World}{t s n:Nat}{v:Value}{cs:List Value}(h:w.ownsRow 0 t s v n cs):w.jk t s v n cs:=by
 obtain⟨hl,hr⟩:=h;refine⟨hl,?_⟩;rcases hr with hn | ⟨g,cap,cur,he,_,hg,Dc,QX,mC,AY⟩
 ·exact .inl hn
 ·exact .inr ⟨g,0,cap,cur,he,⟨t,_,hg,.zero _⟩,Dc,QX,by omega,by simpa using AY⟩
theorem iS{w:World}{t s n:Nat}{v:Value}{cs:List Value}(h:w.jk t s v n cs){k:Nat}(hk:v.ownBlock=some k):k<w.heap.size:=by
 rcases h.2 with⟨rfl,_⟩ | ⟨g,o,cap,cur,rfl,⟨_,_,hg,_⟩,_⟩
 ·simp [Value.ownBlock]at hk
 ·simp only [Value.ownBlock,aqp]at hk;subst hk;exact(aqw.1 hg).1
theorem fw(g o j:Nat):(⟨g,o,none⟩:Addr).add j=⟨g,o+j,none⟩:=by unfold Addr.add;split<;>simp_all
theorem jZ{w:World}{t s n:Nat}{cs:List Value}{g o m c:Nat}(h:w.jk t s (.slice (some ⟨g,o,none⟩) m c) n cs): ∀j u,cs[j]? =some u→w.cell? ((⟨g,o,none⟩:Addr).add j)=some u:=by
 intro j u hu;rcases h.2 with⟨he,_⟩ | ⟨g',o',cap,cur,he,⟨t',fz,hgg,_⟩,_,_,_,tC⟩
 ·simp at he
 ·simp only [Value.slice.injEq,aqp,Addr.mk.injEq,and_true]at he;obtain⟨⟨rfl,rfl⟩,_⟩:=he;rw [fw,cell_of_row w g (o+j) cur t' fz hgg];rw [←tC,List.getElem?_take]at hu;split at hu
  ·rw [List.getElem?_drop]at hu;simpa using hu
  ·cases hu
def aB(md:Bool)(t s:Nat)(v:Value)(n:Nat)(cs:List Value):HP where
 wr:=md
 p w S:=(if md then w.jk t s v n cs else cs.length=n*s∧World.views w v n cs)∧∀k,S k↔v.ownBlock=some k∧(md=true∨0<n)
 eY w w' S h hk:=by
  refine⟨?_,h.2⟩;obtain⟨h0,h2⟩:=h;cases md with
  | true=>
   simp only [if_true]at h0 ⊢;obtain⟨hl,hr⟩:=h0;refine⟨hl,?_⟩;rcases hr with hn | ⟨g,o,cap,cur,rfl,⟨t',fz,hg,hz⟩,rest⟩
   ·exact .inl hn
   ·refine .inr ⟨g,o,cap,cur,rfl,⟨t',fz,?_,hz⟩,rest⟩;rw [hk g ((h2 g).2 ⟨by simp [Value.ownBlock],.inl rfl⟩)];exact hg
  | false=>
   simp only [Bool.false_eq_true,if_false]at h0 ⊢;obtain⟨hl,a,m,c,rfl,hm,QY,j4,hc⟩:=h0;refine⟨hl,a,m,c,rfl,hm,QY,j4,fun ad had=>⟨(hc ad had).1,fun j u hu=>?_⟩⟩;subst had;have:=(hc ad rfl).2 j u hu;have hn:0<n:=by
    apply Nat.pos_of_ne_zero;rintro rfl;have mC:cs=[]:=aqF (by simpa using hl);rw [mC]at hu;simp at hu
   have hb:=hk ad.block ((h2 ad.block).2 ⟨by simp [Value.ownBlock],.inr hn⟩);have lF:(ad.add j).block=ad.block:=by unfold Addr.add;split<;>rfl
   simpa [World.cell?,lF,hb] using this
def dX(agg:Bool)(kl:List IntKind)(ks:List Int):Value:=
 if agg then .agg ((kl.zip ks).map fun x=> .int x.1 x.2).toArray else
 match kl,ks with
 | [k],[n]=> .int k n
 | _,_=> .nilIface
def uW(agg:Bool)(cs:List Value):Value:=
 if agg then .agg cs.toArray else cs.headD .nilIface
structure TH (es:List MapEntry) (kl:List IntKind) (ka va:Bool) (has:Nat→Bool) (row:Nat→List Value):Prop where
 keys: ∀e∈es,∃ks:List Int,ks.length=kl.length∧e.key=dX ka kl ks∧has (aS ks)=true∧e.val=uW va (row (aS ks))
 once: ∀(i j:Nat) e e',es[i]? =some e→es[j]? =some e'→e.key=e'.key→i=j
 all: ∀ks:List Int,ks.length=kl.length→has (aS ks)=true→∃e∈es,e.key=dX ka kl ks
def tD(b:Nat)(kl:List IntKind)(ka va:Bool)(zero:List Value)(has:Nat→Bool)(row:Nat→List Value):HP where
 wr:=true
 p w S:=(∀k,S k↔k=b)∧(∃es clock,w.heap[b]? =some (.map es clock)∧TH es.toList kl ka va has row)∧
  (∀ks:List Int,ks.length=kl.length→has (aS ks)=false→row (aS ks)=zero)
 eY w w' S h hk:=by
  refine⟨h.1,?_,h.2.2⟩;obtain⟨es,clock,h1,h2⟩:=h.2.1;exact⟨es,clock,by rw [hk b ((h.1 b).2 rfl)];exact h1,h2⟩
def Mp(es:Array MapEntry)(clock:Nat):Prop:=clock=es.size∧∀(i:Nat) e,es[i]? =some e→e.born=i
def nQ(b:Nat)(kl:List IntKind)(ka va:Bool)(zero:List Value)(f:Nat→Int)(row:Nat→List Value):HP where
 wr:=true
 p w S:=(tD b kl ka va zero (fun i=> !(f i==0)) row).p w S∧(∃es clock,w.heap[b]? =some (.map es clock)∧f 0=(es.size:Int))∧
  (∀es clock,w.heap[b]? =some (.map es clock)→Mp es clock∧∀ks:List Int,ks.length=kl.length→0≤f (aS ks)∧(2≤f (aS ks)→∃e,es[(f (aS ks)).toNat - 2]? =some e∧e.key=dX ka kl ks))
 eY w w' S h hk:=by
  have hb:=hk b ((h.1.1 b).2 rfl);refine⟨(tD b kl ka va zero (fun i=> !(f i==0)) row).eY w w' S h.1 hk,?_,fun es clock he=>h.2.2 es clock (by rw [←hb];exact he)⟩;obtain⟨es,clock,h1,h2⟩:=h.2.1;exact⟨es,clock,by rw [hb];exact h1,h2⟩
def yv(n:Nat)(w0:World):HP where
 wr:=false
 p w S:=(∀k,S k↔k<n)∧∀k,k<n→w.heap[k]? =w0.heap[k]?
 eY _ _ _ h hk:=⟨h.1,fun k hn=>(hk k ((h.1 k).2 hn)).trans (h.2 k hn)⟩
end Go.RX
