/- Executor. -/
import Derived.OrdersIn
import Derived.WalkKit
open Array renaming getElem?_eq_some_iff -> ax1
open Int renaming toNat_natCast -> ax3
open List renaming eq_nil_of_length_eq_zero -> aye, getElem?_eq_getElem -> ays, getElem?_eq_some_iff -> axT, getElem?_set_ne -> ayq
open Nat renaming lt_of_lt_of_le -> ax7
open Option.some renaming injEq -> axU
namespace Go.RX
inductive IOp where
 | add | sub | mul | quo | rem | gO | cU | cQ | VH | shl | shr | jl | imax
 deriving DecidableEq,Repr
inductive E where
 | lit (n:Int)
 | var (i:Nat)
 | cM (i:Nat)
 | Vh (a i:E)
 | bin (o:IOp) (k:IntKind) (a b:E)
 | wrap (k:IntKind) (a:E)
 | oL (a i v:E)
 | shift (a o:E)
 | jA (a o n b:E)
 | kc (n:Nat) (a:E)
 | uv (b:Nat)
 | tH (l:List Int)
 | VI (a i:E)
 | rQ (a i s:E)
 | YC (s:E)
 deriving DecidableEq,Repr,Inhabited
inductive BE where
 | lit (b:Bool)
 | var (i:Nat)
 | eq (a b:E)
 | lt (a b:E)
 | le (a b:E)
 | nz (a:E)
 | YD (n:Nat) (a b:E)
 | not (a:BE)
 | and (a b:BE)
 | or (a b:BE)
 | ite (c t e:BE)
 | seq (a b:E)
 | Eg (i:Nat)
 deriving DecidableEq,Repr,Inhabited
structure HP where
 wr:Bool
 p:World->(Nat->Prop)->Prop
 eU: ∀w w' S,p w S->(∀k,S k->w'.heap[k]? =w.heap[k]?)->p w' S
structure V1 where
 v:Value
 one:v.oneCell'=true
def V1.nil:V1:=⟨.nilIface,rfl⟩
structure Env where
 iv:List Int:=[]
 av:List (Nat->Int):=[]
 bo:List Bool:=[]
 bv:List Nat:=[]
 vv:List V1:=[]
 va:List (Nat->V1):=[]
 pv:List HP:=[]
 lr:List Loop:=[]
def Qr(o:IOp)(k:IntKind)(x y:Int):Int:=
 let a:=BitVec.ofInt k.bits x
 let b:=BitVec.ofInt k.bits y
 match o with
 | .gO=>k.wrap (a &&& b).toNat
 | .cU=>k.wrap (a|||b).toNat
 | .cQ=>k.wrap (a^^^b).toNat
 | _=>k.wrap (a &&& ~~~b).toNat
def ar(o:IOp)(k:IntKind)(x y:Int):Int:=
 match o with
 | .add=>x+y
 | .sub=>x - y
 | .mul=>x*y
 | .quo=>x.tdiv y
 | .rem=>x.tmod y
 | .jl=>if y<x then y else x
 | .imax=>if x<y then y else x
 | .shl=>k.wrap (x*2^(min y.toNat k.bits))
 | .shr=>x.fdiv (2^(min y.toNat k.bits))
 | o=>Qr o k x y
def Ni:Int->Nat
 | .ofNat n=>2*n
 | .negSucc n=>2*n+1
def uw(acc:Nat)(z:Int):Nat:=(2*(acc*2^((Ni z).log2+1)+Ni z)+1)*2^((Ni z).log2+1)
def aT(l:List Int):Nat:=l.foldl uw 0
def eB(f:Nat->Int):List UInt8:=(List.range (f 0).toNat).map λj=>UInt8.ofNat (f (j+1)).toNat
def F8(l:List UInt8):Nat->Int
 | 0=>l.length
 | j+1=>((l.getD j 0).toNat:Nat)
theorem s6(l:List UInt8):eB (F8 l)=l:=by
 apply List.ext_getElem?;intro j;simp only[eB,F8,ax3,List.getElem?_map];by_cases h:j<l.length
 .rw [List.getElem?_range h,ays h];simp[List.getD,ays h]
 .rw [List.getElem?_eq_none (by simp;omega),List.getElem?_eq_none (by omega)];rfl
theorem dW(f:Nat->Int):(eB f).length=(f 0).toNat:=by simp[eB]
def two:Nat->Nat->Nat×Nat
 | 0,k=>(0,k)
 | d+1,k=>if k%2=1 then(0,k/2)else((two d (k/2)).1+1,(two d (k/2)).2)
def kW(i j:Nat):Nat:=2^i*(2*j+1)
theorem F9: ∀(i j d:Nat),i<d->two d (kW i j)=(i,j)
 | 0,j,d+1,_=>by unfold two kW;rw[if_pos (by omega)];congr 1;omega
 | i+1,j,d+1,h=>by
  have e:kW (i+1) j=2*kW i j:=by unfold kW;rw[Nat.pow_succ,Nat.mul_comm (2^i) 2,Nat.mul_assoc]
  unfold two;rw[if_neg (by rw[e];omega),e,Nat.mul_div_cancel_left _ (by decide),F9 i j d (by omega)]
def dT(k:Nat):Nat×Nat:=two k k
theorem fJ(i j:Nat):dT (kW i j)=(i,j):=by
 apply F9;unfold kW;have h1:i<2^i:=Nat.lt_two_pow_self;have h2:2^i*1<=2^i*(2*j+1):=Nat.mul_le_mul_left _ (by omega);omega
def rK(f:Nat->Int)(i:Nat):Nat->Int:=λj=>f (kW i j)
def Ga(f:Nat->Int)(i:Nat)(s:Nat->Int):Nat->Int:=λk=>if(dT k).1=i then s (dT k).2 else f k
theorem lC(f:Nat->Int)(i j:Nat)(s:Nat->Int):rK (Ga f i s) j=if j=i then s else rK f j:=by
 funext k;simp only[rK,Ga,fJ];split<;>rfl
def Nj(f:Nat->Int):Nat->Int:=λj=>((UInt8.ofNat (f (j+1)).toNat).toNat:Nat)
def E.den(ρ:Env):E->Nat->Int
 | .lit n=>λ_=>n
 | .var i=>λ_=>ρ.iv.getD i 0
 | .cM i=>ρ.av.getD i (λ_=>0)
 | .Vh a i=>λ_=>a.den ρ (i.den ρ 0).toNat
 | .bin o k a b=>λ_=>ar o k (a.den ρ 0) (b.den ρ 0)
 | .wrap k a=>λ_=>k.wrap (a.den ρ 0)
 | .oL a i v=>λj=>if j=(i.den ρ 0).toNat then v.den ρ 0 else a.den ρ j
 | .shift a o=>λj=>a.den ρ ((o.den ρ 0).toNat+j)
 | .jA a o n b=>λj=>if(o.den ρ 0).toNat<=j/\j<(o.den ρ 0).toNat+(n.den ρ 0).toNat then b.den ρ (j - (o.den ρ 0).toNat)else a.den ρ j
 | .kc n a=>λ_=>(aT ((List.range n).map (a.den ρ)):Nat)
 | .uv b=>λ_=>(ρ.bv.getD b 0:Nat)+1
 | .tH l=>λj=>l.getD j 0
 | .VI a i=>rK (a.den ρ) (i.den ρ 0).toNat
 | .rQ a i s=>Ga (a.den ρ) (i.den ρ 0).toNat (s.den ρ)
 | .YC s=>Nj (s.den ρ)
abbrev E.i(ρ:Env)(e:E):Int:=e.den ρ 0
def Ay(v:Value)(k n:Nat):Value:=
 match v with
 | .slice (some a) _ _=> .slice (some (a.add k)) n n
 | _=> .slice none 0 0
def yB:Value->Bool
 | .slice none _ _=>true
 | _=>false
def BE.den(ρ:Env):BE->Bool
 | .lit b=>b
 | .var i=>ρ.bo.getD i false
 | .eq a b=>a.den ρ 0==b.den ρ 0
 | .lt a b=>decide (a.den ρ 0<b.den ρ 0)
 | .le a b=>decide (a.den ρ 0<=b.den ρ 0)
 | .nz a=> !(a.den ρ 0==0)
 | .YD n a b=>(List.range n).all λj=>a.den ρ j==b.den ρ j
 | .not a=> !a.den ρ
 | .and a b=>a.den ρ&&b.den ρ
 | .or a b=>a.den ρ||b.den ρ
 | .ite c t e=>if c.den ρ then t.den ρ else e.den ρ
 | .seq a b=>eB (a.den ρ)==eB (b.den ρ)
 | .Eg i=>yB (ρ.vv.getD i V1.nil).v
def BE.prop(ρ:Env):BE->Prop
 | .lit b=>b=true
 | .var i=>ρ.bo.getD i false=true
 | .eq a b=>a.den ρ 0=b.den ρ 0
 | .lt a b=>a.den ρ 0<b.den ρ 0
 | .le a b=>a.den ρ 0<=b.den ρ 0
 | .nz a=>a.den ρ 0≠0
 | .YD n a b=> ∀j,j<n->a.den ρ j=b.den ρ j
 | .not a=> ¬a.prop ρ
 | .and a b=>a.prop ρ/\b.prop ρ
 | .or a b=>a.prop ρ\/b.prop ρ
 | .ite c t e=>(c.prop ρ->t.prop ρ)/\(¬c.prop ρ->e.prop ρ)
 | .seq a b=>eB (a.den ρ)=eB (b.den ρ)
 | .Eg i=>yB (ρ.vv.getD i V1.nil).v=true
theorem BE.bY(ρ:Env)(b:BE):b.den ρ=true↔b.prop ρ:=by
 induction b with
 | lit b=>rfl
 | var i=>rfl
 | eq a b=>simp[BE.den,BE.prop]
 | lt a b=>simp[BE.den,BE.prop]
 | le a b=>simp[BE.den,BE.prop]
 | nz a=>simp[BE.den,BE.prop]
 | YD n a b=>simp[BE.den,BE.prop]
 | not a ih=>simp[BE.den,BE.prop,<-ih]
 | and a b mU rR=>simp[BE.den,BE.prop,mU,rR]
 | or a b mU rR=>simp[BE.den,BE.prop,mU,rR]
 | ite c t e ihc I6 I7=>
  simp only[BE.den,BE.prop,<-ihc,<-I6,<-I7];cases c.den ρ<;>simp
 | seq a b=>simp[BE.den,BE.prop]
 | Eg i=>rfl
structure Cut where
 lo:E
 hi:E
 mx:Option E
 deriving DecidableEq,Repr,Inhabited
inductive SV where
 | int (k:IntKind) (e:E)
 | bool (b:BE)
 | iy | bW | qK | pT | oM | undef
 | ptr (b c:Nat)
 | rL (b:Nat) (i:E) (s c:Nat)
 | pv (v:Nat) (i:E) (s c:Nat)
 | sl (b:Nat) (i:E) (s:Nat) (n m:E)
 | vv (i:Nat)
 | str (l:List UInt8)
 | fn (f:Nat) (jL:List SV)
 | fm (f:Nat) (first:List SV)
 | agg (cs:List SV)
 | jD (k:IntKind) (n:Nat) (a:E)
 | oH (vs:List SV)
 | opt (c:BE) (v:SV)
 | Gb (a:Nat) (i:E)
 | Nk (l:Nat)
 | mp (b:Nat)
 | kj (v:Nat) (cs:List Cut) (s:Nat)
 | j9 (e:E)
 | nX (s:E)
 | Jp (c:BE) (v:Nat)
 | Qs (t:Nat) (k:IntKind) (e:E)
 | VJ (t b c:Nat)
 | Qt (v:Nat) (i:E) (s c n:Nat)
 | Jq (e:E)
 deriving Repr,Inhabited
def aj(k:IntKind)(n:Nat)(f:Nat->Int):List Value:=(List.range n).map λj=> .int k (f j)
def gC(v:Value)(n:Nat):Value:=
 match v with
 | .slice (some a) _ _=> .pointer (some (a.add n))
 | _=> .pointer none
def aK(s:Nat)(v:Value)(lo hi:Nat)(mx:Option Nat):Value:=
 match v with
 | .slice a _ c=> .slice (if mx.getD c=lo then a else a.map (·.add (lo*s))) (hi - lo) (mx.getD c - lo)
 | _=> .nilIface
theorem cD(s:Nat)(v:Value)(lo hi:Nat)(mx:Option Nat):(aK s v lo hi mx).oneCell'=true:=by
 unfold aK;split<;>rfl
def dX(ρ:Env)(s:Nat)(v:Value):List Cut->Value
 | []=>v
 | c::r=>dX ρ s (aK s v (c.lo.den ρ 0).toNat (c.hi.den ρ 0).toNat (c.mx.map λm=>(m.den ρ 0).toNat)) r
theorem pz(ρ:Env)(s:Nat): ∀(cs:List Cut) (v:Value),v.oneCell'=true->(dX ρ s v cs).oneCell'=true
 | [],_,h=>h
 | _::r,_,_=>pz ρ s r _ (cD ..)
theorem pU(ρ:Env)(s:Nat): ∀(a b:List Cut) (v:Value),dX ρ s v (a++b)=dX ρ s (dX ρ s v a) b
 | [],_,_=>rfl
 | _::r,b,_=>pU ρ s r b _
def dr(z:Int):Value:=if z=0 then .pointer none else .pointer (some ⟨(z - 1).toNat,0,none⟩)
theorem fq(b:Nat):dr ((b:Nat)+1)= .pointer (some ⟨b,0,none⟩):=by
 unfold dr;rw[if_neg (by omega),show((b:Int)+1 - 1).toNat=b by omega]
theorem Gc(z:Int):(dr z).oneCell'=true:=by unfold dr;split<;>rfl
def Qu(q:Nat):Value:=if(dT q).1=0 then .slice none (dT (dT q).2).1 (dT (dT q).2).2 else
 .slice (some ⟨(dT q).1 - 1,(dT (dT q).2).1,some (dT (dT (dT q).2).2).1⟩) (dT (dT (dT (dT q).2).2).2).1 (dT (dT (dT (dT q).2).2).2).2
def bg(z:Int):Value:=if z=0 then .slice none 0 0 else if z<0 then Qu (-z).toNat else
 .slice (some ⟨(dT z.toNat).1,(dT (dT z.toNat).2).1,none⟩) (dT (dT (dT z.toNat).2).2).1 (dT (dT (dT z.toNat).2).2).2
def VK(b o n c:Nat):Int:=(kW b (kW o (kW n c)):Nat)
theorem xq(i j:Nat):0<kW i j:=Nat.mul_pos (Nat.two_pow_pos i) (by omega)
theorem Qv:bg 0= .slice none 0 0:=rfl
theorem Dr(b o n c:Nat):bg (VK b o n c)= .slice (some ⟨b,o,none⟩) n c:=by
 have:=xq b (kW o (kW n c));unfold bg VK;rw[if_neg (by omega),if_neg (by omega),ax3,fJ,fJ,fJ]
theorem iU(z:Int):(bg z).oneCell'=true:=by
 unfold bg;split
 .rfl
 .split
  .unfold Qu;split<;>rfl
  .rfl
theorem vu(a:Option Addr)(n c:Nat): ∃z:Int,.slice a n c=bg z:=by
 have key: ∀q:Nat,0<q->bg (-(q:Int))=Qu q:=by
  intro q hq;unfold bg;rw[if_neg (by omega),if_pos (by omega),Int.neg_neg,ax3]
 cases a with
 | none=>
  refine⟨-((kW 0 (kW n c):Nat):Int),?_⟩;rw[key _ (xq _ _)];unfold Qu;rw[fJ,fJ,if_pos rfl]
 | some a=>
  obtain⟨b,o,sp⟩:=a;cases sp with
  | none=>exact⟨VK b o n c,(Dr b o n c).symm⟩
  | some k=>
   refine⟨-((kW (b+1) (kW o (kW k (kW n c))):Nat):Int),?_⟩;rw[key _ (xq _ _)];unfold Qu;rw[fJ,fJ,fJ,fJ,if_neg (by omega)];rfl
def vw(x:Value):Value:=
 match x with
 | .iface t v=> .iface t v
 | x=> .iface 0 x
mutual
def SV.val(ρ:Env):SV->Value
 | .int k e=> .int k (e.den ρ 0)
 | .bool b=> .bool (b.den ρ)
 | .iy=> .pointer none
 | .bW=> .slice none 0 0
 | .qK=> .nilFunc
 | .pT=> .nilIface
 | .oM=> .map none
 | .undef=>Go.undef
 | .ptr b c=> .pointer (some ⟨ρ.bv.getD b 0,c,none⟩)
 | .rL b i s c=> .pointer (some ⟨ρ.bv.getD b 0,(i.den ρ 0).toNat*s+c,none⟩)
 | .pv v i s c=>gC (ρ.vv.getD v V1.nil).v ((i.den ρ 0).toNat*s+c)
 | .sl b i s n m=> .slice (some ⟨ρ.bv.getD b 0,(i.den ρ 0).toNat*s,none⟩) (n.den ρ 0).toNat (m.den ρ 0).toNat
 | .vv i=>(ρ.vv.getD i V1.nil).v
 | .str l=> .string ⟨l.toArray⟩
 | .fn f jL=> .func (.func f) #[] (SV.bF ρ jL).toArray
 | .fm f first=> .func (.func f) (SV.bF ρ first).toArray #[]
 | .agg cs=> .agg (SV.aq ρ cs).toArray
 | .jD k n a=> .agg (aj k n (a.den ρ)).toArray
 | .oH vs=> .tuple (SV.bF ρ vs).toArray
 | .opt c v=>if c.den ρ then v.val ρ else Go.undef
 | .Gb a i=>((ρ.va.getD a λ_=>V1.nil) (i.den ρ 0).toNat).v
 | .Nk l=> .func (.yield (ρ.bv.getD l 0)) #[] #[]
 | .mp b=> .map (some (ρ.bv.getD b 0))
 | .kj v cs s=>dX ρ s (ρ.vv.getD v V1.nil).v cs
 | .j9 e=>dr (e.den ρ 0)
 | .nX s=> .string ⟨(eB (s.den ρ)).toArray⟩
 | .Jp c v=>if c.den ρ then vw (ρ.vv.getD v V1.nil).v else .nilIface
 | .Qs t k e=> .iface t (.int k (e.den ρ 0))
 | .VJ t b c=> .iface t (.pointer (some ⟨ρ.bv.getD b 0,c,none⟩))
 | .Qt v i s c n=>Ay (ρ.vv.getD v V1.nil).v ((i.den ρ 0).toNat*s+c) n
 | .Jq e=>bg (e.den ρ 0)
def SV.bF(ρ:Env):List SV->List Value
 | []=>[]
 | v::r=>v.val ρ::SV.bF ρ r
def SV.aq(ρ:Env):List SV->List Value
 | []=>[]
 | v::r=>SV.cells ρ v++SV.aq ρ r
def SV.cells(ρ:Env):SV->List Value
 | .agg cs=>SV.aq ρ cs
 | .jD k n a=>aj k n (a.den ρ)
 | .int k e=>[.int k (e.den ρ 0)]
 | .bool b=>[.bool (b.den ρ)]
 | .iy=>[.pointer none]
 | .bW=>[.slice none 0 0]
 | .qK=>[.nilFunc]
 | .pT=>[.nilIface]
 | .oM=>[.map none]
 | .undef=>[Go.undef]
 | .ptr b c=>[.pointer (some ⟨ρ.bv.getD b 0,c,none⟩)]
 | .rL b i s c=>[.pointer (some ⟨ρ.bv.getD b 0,(i.den ρ 0).toNat*s+c,none⟩)]
 | .pv v i s c=>[gC (ρ.vv.getD v V1.nil).v ((i.den ρ 0).toNat*s+c)]
 | .sl b i s n m=>[.slice (some ⟨ρ.bv.getD b 0,(i.den ρ 0).toNat*s,none⟩) (n.den ρ 0).toNat (m.den ρ 0).toNat]
 | .vv i=>[(ρ.vv.getD i V1.nil).v]
 | .str l=>[.string ⟨l.toArray⟩]
 | .fn f jL=>[.func (.func f) #[] (SV.bF ρ jL).toArray]
 | .fm f first=>[.func (.func f) (SV.bF ρ first).toArray #[]]
 | .oH vs=>[.tuple (SV.bF ρ vs).toArray]
 | .opt c v=>[if c.den ρ then v.val ρ else Go.undef]
 | .Gb a i=>[((ρ.va.getD a λ_=>V1.nil) (i.den ρ 0).toNat).v]
 | .Nk l=>[.func (.yield (ρ.bv.getD l 0)) #[] #[]]
 | .mp b=>[.map (some (ρ.bv.getD b 0))]
 | .kj v cs s=>[dX ρ s (ρ.vv.getD v V1.nil).v cs]
 | .j9 e=>[dr (e.den ρ 0)]
 | .nX s=>[.string ⟨(eB (s.den ρ)).toArray⟩]
 | .Jp c v=>[if c.den ρ then vw (ρ.vv.getD v V1.nil).v else .nilIface]
 | .Qs t k e=>[.iface t (.int k (e.den ρ 0))]
 | .VJ t b c=>[.iface t (.pointer (some ⟨ρ.bv.getD b 0,c,none⟩))]
 | .Qt v i s c n=>[Ay (ρ.vv.getD v V1.nil).v ((i.den ρ 0).toNat*s+c) n]
 | .Jq e=>[bg (e.den ρ 0)]
end
structure jm (w w':World):Prop where
 os:w'.os=w.os
 tape:w'.tape=w.tape
 output:w'.output=w.output
 size:w.heap.size<=w'.heap.size
theorem jm.refl(w:World):jm w w:=⟨rfl,rfl,rfl,Nat.le_refl _⟩
theorem jm.trans{a b c:World}(h:jm a b)(k:jm b c):jm a c:=
 ⟨k.os.trans h.os,k.tape.trans h.tape,k.output.trans h.output,Nat.le_trans h.size k.size⟩
structure Sep (hs:List HP) (S:Nat->Nat->Prop) (w:World):Prop where
 at_: ∀i h,hs[i]? =some h->h.p w (S i)/\∀k,S i k->k<w.heap.size
 apart: ∀i j hi hj,i≠j->hs[i]? =some hi->hs[j]? =some hj->(hi.wr=true\/hj.wr=true)->∀k,S i k->¬S j k
def aU(hs:List HP)(w:World):Prop:= ∃S,Sep hs S w
def HP.emp:HP:=⟨false,λ_ S=> ∀k,¬S k,λ_ _ _ h _=>h⟩
theorem aU.pick{hs:List HP}{w:World}(h:aU hs w)(idx:List Nat)(lU:List HP)(iT:idx.Nodup)
  (he: ∀j:Nat,lU[j]? =(idx[j]?).bind (λi=>hs[i]?)):aU lU w:=by
 obtain⟨S,hS⟩:=h;refine⟨λj=>S (idx.getD j 0),⟨?_,?_⟩⟩
 .intro j x hx;rw[he]at hx;cases hj:idx[j]? with
  | none=>simp[hj]at hx
  | some i=>
   simp only[hj,Option.bind_some]at hx;have:idx.getD j 0=i:=by simp[List.getD,hj]
   rw[this];exact hS.at_ i x hx
 .intro i j hi hj fL YE hxj hw k;rw[he]at YE hxj;cases cj:idx[i]? with
  | none=>simp[cj]at YE
  | some ii=>
   cases eF:idx[j]? with
   | none=>simp[eF]at hxj
   | some jj=>
    simp only[cj,eF,Option.bind_some]at YE hxj;have e1:idx.getD i 0=ii:=by simp[List.getD,cj]
    have e2:idx.getD j 0=jj:=by simp[List.getD,eF]
    rw[e1,e2];refine hS.apart ii jj hi hj ?_ YE hxj hw k;intro e;subst e;rw[axT]at cj eF;obtain⟨a1,b1⟩:=cj;obtain⟨a2,b2⟩:=eF;have hpw:=List.pairwise_iff_getElem.1 iT;rcases Nat.lt_or_gt_of_ne fL with h | h
    .exact hpw i j a1 a2 h (b1.trans b2.symm)
    .exact hpw j i a2 a1 h (b2.trans b1.symm)
theorem Sep.step{hs:List HP}{S:Nat->Nat->Prop}{w w':World}(h:Sep hs S w)(i:Nat)(h0 h':HP)(hi:hs[i]? =some h0)(hw:h0.wr=true)
  (S':Nat->Prop) (fY:w.heap.size<=w'.heap.size) (vz: ∀k,k<w.heap.size->¬S i k->w'.heap[k]? =w.heap[k]?)
  (hp:h'.p w' S') (fx: ∀k,S' k->S i k\/(w.heap.size<=k/\k<w'.heap.size)):
  Sep (hs.set i h') (λj=>if j=i then S' else S j) w':=by
 have cC:i<hs.length:=(axT.1 hi).1;refine⟨?_,?_⟩
 .intro j x hx;by_cases hj:j=i
  .subst hj;rw[List.getElem?_set_self cC]at hx;cases hx;simp only[if_true];refine⟨hp,λk hk=>?_⟩;rcases fx k hk with h1 | h1
   .exact ax7 ((h.at_ _ _ hi).2 k h1) fY
   .exact h1.2
  .rw [ayq (Ne.symm hj)]at hx;simp only[hj,if_false];obtain⟨hpx,hb⟩:=h.at_ j x hx;refine⟨x.eU w w' _ hpx λk hk=>vz k (hb k hk) ?_,λk hk=>ax7 (hb k hk) fY⟩;exact λhik=>h.apart i j h0 x (Ne.symm hj) hi hx (.inl hw) k hik hk
 .intro a b ha hb fL I8 Nl vn k;by_cases VL:a=i
  .subst VL;have hbi:b≠a:=Ne.symm fL;rw[ayq fL]at Nl;simp only[if_true,hbi,if_false];intro hk Lk;rcases fx k hk with h1 | h1
   .exact h.apart a b h0 hb fL hi Nl (.inl hw) k h1 Lk
   .exact absurd ((h.at_ b hb Nl).2 k Lk) (by omega)
  .rw [ayq (Ne.symm VL)]at I8;by_cases ZV:b=i
   .subst ZV;simp only[if_true,VL,if_false];intro hk Lk;rcases fx k Lk with h1 | h1
    .exact h.apart a b ha h0 fL I8 hi (.inr hw) k hk h1
    .exact absurd ((h.at_ a ha I8).2 k hk) (by omega)
   .rw [ayq (Ne.symm ZV)]at Nl;simp only[VL,ZV,if_false];exact h.apart a b ha hb fL I8 Nl vn k
theorem Sep.ZW{hs:List HP}{S:Nat->Nat->Prop}{w w':World}(h:Sep hs S w)(fY:w.heap.size<=w'.heap.size)
  (vz: ∀k,k<w.heap.size->w'.heap[k]? =w.heap[k]?):Sep hs S w':=by
 refine⟨λi x hx=>?_,h.apart⟩;obtain⟨hp,hb⟩:=h.at_ i x hx;exact⟨x.eU w w' _ hp λk hk=>vz k (hb k hk),λk hk=>ax7 (hb k hk) fY⟩
theorem Sep.new{hs:List HP}{S:Nat->Nat->Prop}{w w':World}(h:Sep hs S w)(i:Nat)(h':HP)(hi:hs[i]? =some HP.emp)
  (S':Nat->Prop) (fY:w.heap.size<=w'.heap.size) (vz: ∀k,k<w.heap.size->w'.heap[k]? =w.heap[k]?)
  (hp:h'.p w' S') (fx: ∀k,S' k->w.heap.size<=k/\k<w'.heap.size):
  Sep (hs.set i h') (λj=>if j=i then S' else S j) w':=by
 have cC:i<hs.length:=(axT.1 hi).1;refine⟨?_,?_⟩
 .intro j x hx;by_cases hj:j=i
  .subst hj;rw[List.getElem?_set_self cC]at hx;cases hx;simp only[if_true];exact⟨hp,λk hk=>(fx k hk).2⟩
  .rw [ayq (Ne.symm hj)]at hx;simp only[hj,if_false];obtain⟨hpx,hb⟩:=h.at_ j x hx;exact⟨x.eU w w' _ hpx λk hk=>vz k (hb k hk),λk hk=>ax7 (hb k hk) fY⟩
 .intro a b ha hb fL I8 Nl vn k;by_cases VL:a=i
  .subst VL;have hbi:b≠a:=Ne.symm fL;rw[ayq fL]at Nl;simp only[if_true,hbi,if_false];intro hk Lk;have:=(h.at_ b hb Nl).2 k Lk;have:=fx k hk;omega
  .rw [ayq (Ne.symm VL)]at I8;by_cases ZV:b=i
   .subst ZV;simp only[if_true,VL,if_false];intro hk Lk;have:=(h.at_ a ha I8).2 k hk;have:=fx k Lk;omega
   .rw [ayq (Ne.symm ZV)]at Nl;simp only[VL,ZV,if_false];exact h.apart a b ha hb fL I8 Nl vn k
def ak(b:Nat)(wr:Bool)(cs:List Value):HP where
 wr:=wr
 p w S:=(∀k,S k↔k=b)/\∃ty fz,w.heap[b]? =some (.cells cs.toArray ty fz)/\(wr=true->fz=(0,0))
 eU w w' S h hk:=by
  obtain⟨h1,ty,fz,h2,h3⟩:=h;exact⟨h1,ty,fz,(hk b ((h1 b).2 rfl)).trans h2,h3⟩
def YF(b:Nat)(l:List UInt8)(pos:Nat):HP where
 wr:=true
 p w S:=(∀k,S k↔k=b)/\w.heap[b]? =some (.stringIter ⟨l.toArray⟩ pos)
 eU _ _ _ h hk:=⟨h.1,(hk b ((h.1 b).2 rfl)).trans h.2⟩
def YG(b m:Nat):HP where
 wr:=true
 p w S:=(∀k,S k↔k=b)/\∃c,w.heap[b]? =some (.mapIter (some m) c #[] c)
 eU _ _ _ h hk:=by
  obtain⟨h1,c,h2⟩:=h;exact⟨h1,c,(hk b ((h1 b).2 rfl)).trans h2⟩
def YH(b t e:Nat)(bs:List Value):HP where
 wr:=true
 p w S:= ∃pv v,w.heap[b]? =some (.cells #[pv,v] t (0,0))/\(pv= .pointer none\/pv= .pointer (some ⟨b,0,none⟩))/\w.ownsRow 0 e 1 v bs.length bs/\
  v.ownBlock≠some b/\∀k,S k↔k=b\/v.ownBlock=some k
 eU w w' S h hk:=by
  obtain⟨pv,v,h1,h2,h3,h4,h5⟩:=h;refine⟨pv,v,(hk b ((h5 b).2 (.inl rfl))).trans h1,h2,⟨h3.1,?_⟩,h4,h5⟩;rcases h3.2 with hn | ⟨g,cap,cur,rfl,hB,hg,r⟩
  .exact .inl hn
  .exact .inr ⟨g,cap,cur,rfl,hB,(hk g ((h5 g).2 (.inr rfl))).trans hg,r⟩
def Qw(l:Nat)(r:Loop):HP where
 wr:=true
 p w S:=(∀k,S k↔k=l)/\w.heap[l]? =some (.loop r)
 eU w w' S h hk:=⟨h.1,by rw[hk l ((h.1 l).2 rfl)];exact h.2⟩
def Az(b:Nat):HP where
 wr:=true
 p w S:=(∀k,S k↔k=b)/\w.heap[b]? =some (.deferred (some []))
 eU w w' S h hk:=⟨h.1,by rw[hk b ((h.1 b).2 rfl)];exact h.2⟩
def mV(l:List Nat):HP where
 wr:=true
 p w S:=(∀k,S k↔k∈l)/\l.Nodup/\∀b,b∈l->w.heap[b]? =some (.deferred (some []))
 eU w w' S h hk:=⟨h.1,h.2.1,λb hb=>by rw[hk b ((h.1 b).2 hb)];exact h.2.2 b hb⟩
def qL:List Nat->Nat
 | []=>0
 | x::r=>2^x*(2*qL r+1)
theorem Qx: ∀{l m:List Nat},qL l=qL m->l=m:=by
 have pos: ∀(x:Nat) (r:List Nat),0<qL (x::r):=λx r=>Nat.mul_pos (Nat.pow_pos (by decide)) (by omega)
 have key: ∀(x y a b:Nat),2^x*(2*a+1)=2^y*(2*b+1)->x=y/\a=b:=by
  intro x
  induction x with
  | zero=>
   intro y a b h;cases y with
   | zero=>simp at h;exact⟨rfl,by omega⟩
   | succ y=>rw[Nat.pow_succ,Nat.mul_right_comm]at h;omega
  | succ x ih=>
   intro y a b h;cases y with
   | zero=>rw[Nat.pow_succ,Nat.mul_right_comm]at h;omega
   | succ y=>
    rw[Nat.pow_succ,Nat.pow_succ,Nat.mul_right_comm,Nat.mul_right_comm _ 2]at h;obtain⟨h1,h2⟩:=ih y a b (by omega);exact⟨by omega,h2⟩
 intro l
 induction l with
 | nil=>
  intro m h;cases m with
  | nil=>rfl
  | cons y s=>have:=pos y s;rw[<-h]at this;simp[qL]at this
 | cons x r ih=>
  intro m h;cases m with
  | nil=>have:=pos x r;rw[h]at this;simp[qL]at this
  | cons y s=>
   obtain⟨rfl,h2⟩:=key _ _ _ _ h;rw[ih h2]
open Classical in
noncomputable def rS(n:Nat):List Nat:=if h: ∃l,qL l=n then h.choose else []
theorem qM(l:List Nat):rS (qL l)=l:=by
 have h: ∃m,qL m=qL l:=⟨l,rfl⟩;unfold rS;rw[dif_pos h];exact Qx h.choose_spec
def World.views(w:World)(v:Value)(n:Nat)(cs:List Value):Prop:=
 ∃a m c,v= .slice a m c/\m=n/\m<=c/\(a=none->n=0)/\
  ∀ad,a=some ad->(0<n->ad.spot=none)/\∀(j:Nat) u,cs[j]? =some u->w.cell? (ad.add j)=some u
def tQ(n:Nat)(fz:Nat×Nat):Prop:=fz.2<=fz.1\/n<=fz.1
theorem tQ.zero(n:Nat):tQ n (0,0):= .inl (Nat.le_refl _)
theorem tQ.off{n:Nat}{fz:Nat×Nat}(h:tQ n fz){i:Nat}(hi:i<n):(decide (fz.1<=i)&&decide (i<fz.2))=false:=by
 unfold tQ at h;simp;omega
def _root_.Go.World.mW(w:World)(_ s:Nat)(v:Value)(n:Nat)(cs:List Value):Prop:=
 cs.length=n*s/\((v= .slice none 0 0/\n=0)\/
  ∃g o cap cur,v= .slice (some ⟨g,o,none⟩) n cap/\(∃t' fz,w.heap[g]? =some (.cells cur t' fz)/\tQ cur.size fz)/\n<=cap/\cap<=maxLen/\(0<cap->o+cap*s<=cur.size)/\(cur.toList.drop o).take (n*s)=cs)
theorem qN(w:World)(t s:Nat):w.mW t s (.slice none 0 0) 0 []:=⟨by simp,.inl ⟨rfl,rfl⟩⟩
theorem Nm{w:World}{t s n:Nat}{v:Value}{cs:List Value}(h:w.ownsRow 0 t s v n cs):w.mW t s v n cs:=by
 obtain⟨hl,hr⟩:=h;refine⟨hl,?_⟩;rcases hr with hn | ⟨g,cap,cur,he,_,hg,Jr,ZX,nY,Ds⟩
 .exact .inl hn
 .exact .inr ⟨g,0,cap,cur,he,⟨t,_,hg,.zero _⟩,Jr,ZX,by omega,by simpa using Ds⟩
theorem pV{w:World}{t s n:Nat}{v:Value}{cs:List Value}(h:w.mW t s v n cs){k:Nat}(hk:v.ownBlock=some k):k<w.heap.size:=by
 rcases h.2 with⟨rfl,_⟩ | ⟨g,o,cap,cur,rfl,⟨_,_,hg,_⟩,_⟩
 .simp [Value.ownBlock]at hk
 .simp only[Value.ownBlock,axU]at hk;subst hk;exact(ax1.1 hg).1
theorem jF(g o j:Nat):(⟨g,o,none⟩:Addr).add j=⟨g,o+j,none⟩:=by unfold Addr.add;split<;>simp_all
theorem nm{w:World}{t s n:Nat}{cs:List Value}{g o m c:Nat}(h:w.mW t s (.slice (some ⟨g,o,none⟩) m c) n cs): ∀j u,cs[j]? =some u->w.cell? ((⟨g,o,none⟩:Addr).add j)=some u:=by
 intro j u hu;rcases h.2 with⟨he,_⟩ | ⟨g',o',cap,cur,he,⟨t',fz,hgg,_⟩,_,_,_,vA⟩
 .simp at he
 .simp only[Value.slice.injEq,axU,Addr.mk.injEq,and_true]at he;obtain⟨⟨rfl,rfl⟩,_⟩:=he;rw[jF,cell_of_row w g (o+j) cur t' fz hgg];rw[<-vA,List.getElem?_take]at hu;split at hu
  .rw [List.getElem?_drop]at hu;simpa using hu
  .cases hu
def aA(md:Bool)(t s:Nat)(v:Value)(n:Nat)(cs:List Value):HP where
 wr:=md
 p w S:=(if md then w.mW t s v n cs else cs.length=n*s/\World.views w v n cs)/\∀k,S k↔v.ownBlock=some k/\(md=true\/0<n)
 eU w w' S h hk:=by
  refine⟨?_,h.2⟩;obtain⟨h0,h2⟩:=h;cases md with
  | true=>
   simp only[if_true]at h0 ⊢;obtain⟨hl,hr⟩:=h0;refine⟨hl,?_⟩;rcases hr with hn | ⟨g,o,cap,cur,rfl,⟨t',fz,hg,hz⟩,rest⟩
   .exact .inl hn
   .refine .inr ⟨g,o,cap,cur,rfl,⟨t',fz,?_,hz⟩,rest⟩;rw[hk g ((h2 g).2 ⟨by simp[Value.ownBlock],.inl rfl⟩)];exact hg
  | false=>
   simp only[Bool.false_eq_true,if_false]at h0 ⊢;obtain⟨hl,a,m,c,rfl,hm,VM,lD,hc⟩:=h0;refine⟨hl,a,m,c,rfl,hm,VM,lD,λad had=>⟨(hc ad had).1,λj u hu=>?_⟩⟩;subst had;have:=(hc ad rfl).2 j u hu;have hn:0<n:=by
    apply Nat.pos_of_ne_zero;rintro rfl;have nY:cs=[]:=aye (by simpa using hl);rw[nY]at hu;simp at hu
   have hb:=hk ad.block ((h2 ad.block).2 ⟨by simp[Value.ownBlock],.inr hn⟩);have qO:(ad.add j).block=ad.block:=by unfold Addr.add;split<;>rfl
   simpa[World.cell?,qO,hb] using this
def eG(agg:Bool)(kl:List IntKind)(ks:List Int):Value:=
 if agg then .agg ((kl.zip ks).map λx=> .int x.1 x.2).toArray else
 match kl,ks with
 | [k],[n]=> .int k n
 | _,_=> .nilIface
def xr(agg:Bool)(cs:List Value):Value:=
 if agg then .agg cs.toArray else cs.headD .nilIface
structure YI (es:List MapEntry) (kl:List IntKind) (ka va:Bool) (has:Nat->Bool) (row:Nat->List Value):Prop where
 keys: ∀e∈es,∃ks:List Int,ks.length=kl.length/\e.key=eG ka kl ks/\has (aT ks)=true/\e.val=xr va (row (aT ks))
 once: ∀(i j:Nat) e e',es[i]? =some e->es[j]? =some e'->e.key=e'.key->i=j
 all: ∀ks:List Int,ks.length=kl.length->has (aT ks)=true->∃e∈es,e.key=eG ka kl ks
def vB(b:Nat)(kl:List IntKind)(ka va:Bool)(zero:List Value)(has:Nat->Bool)(row:Nat->List Value):HP where
 wr:=true
 p w S:=(∀k,S k↔k=b)/\(∃es clock,w.heap[b]? =some (.map es clock)/\YI es.toList kl ka va has row)/\
  (∀ks:List Int,ks.length=kl.length->has (aT ks)=false->row (aT ks)=zero)
 eU w w' S h hk:=by
  refine⟨h.1,?_,h.2.2⟩;obtain⟨es,clock,h1,h2⟩:=h.2.1;exact⟨es,clock,by rw[hk b ((h.1 b).2 rfl)];exact h1,h2⟩
def Qy(es:Array MapEntry)(clock:Nat):Prop:=clock=es.size/\∀(i:Nat) e,es[i]? =some e->e.born=i
def pA(b:Nat)(kl:List IntKind)(ka va:Bool)(zero:List Value)(f:Nat->Int)(row:Nat->List Value):HP where
 wr:=true
 p w S:=(vB b kl ka va zero (λi=> !(f i==0)) row).p w S/\(∃es clock,w.heap[b]? =some (.map es clock)/\f 0=(es.size:Int))/\
  (∀es clock,w.heap[b]? =some (.map es clock)->Qy es clock/\∀ks:List Int,ks.length=kl.length->0<=f (aT ks)/\(2<=f (aT ks)->∃e,es[(f (aT ks)).toNat - 2]? =some e/\e.key=eG ka kl ks))
 eU w w' S h hk:=by
  have hb:=hk b ((h.1.1 b).2 rfl);refine⟨(vB b kl ka va zero (λi=> !(f i==0)) row).eU w w' S h.1 hk,?_,λes clock he=>h.2.2 es clock (by rw[<-hb];exact he)⟩;obtain⟨es,clock,h1,h2⟩:=h.2.1;exact⟨es,clock,by rw[hb];exact h1,h2⟩
def nZ(n:Nat)(w0:World):HP where
 wr:=false
 p w S:=(∀k,S k↔k<n)/\∀k,k<n->w.heap[k]? =w0.heap[k]?
 eU _ _ _ h hk:=⟨h.1,λk hn=>(hk k ((h.1 k).2 hn)).trans (h.2 k hn)⟩
end Go.RX
