/- Executor. -/
import Derived.OrdersIn
import Derived.WalkKit
open Array renaming getElem?_eq_some_iff → ae5
open Int renaming toNat_natCast → afe
open List renaming eq_nil_of_length_eq_zero → aff, getElem?_eq_getElem → afA, getElem?_eq_none → afz, getElem?_eq_some_iff → aeV, getElem?_set_ne → afn
open Nat renaming lt_of_lt_of_le → ae_
open Option.some renaming injEq → aeX
namespace Go.RX
inductive Vb where
 | add | sub | mul | quo | rem | aP | bR | ay | PH | shl | shr | tE | imax
 deriving DecidableEq,Repr
inductive E where
 | lit (n:Int)
 | var (i:Nat)
 | aL (i:Nat)
 | OL (a i:E)
 | bin (o:Vb) (k:IntKind) (a b:E)
 | wrap (k:IntKind) (a:E)
 | r9 (a i v:E)
 | shift (a o:E)
 | tw (a o n b:E)
 | kc (n:Nat) (a:E)
 | mR (b:Nat)
 | qt (l:List Int)
 | PI (a i:E)
 | o4 (a i s:E)
 | RF (s:E)
 deriving DecidableEq,Repr,Inhabited
inductive BE where
 | lit (b:Bool)
 | var (i:Nat)
 | eq (a b:E)
 | lt (a b:E)
 | le (a b:E)
 | nz (a:E)
 | RG (n:Nat) (a b:E)
 | not (a:BE)
 | and (a b:BE)
 | or (a b:BE)
 | ite (c t e:BE)
 | seq (a b:E)
 deriving DecidableEq,Repr,Inhabited
structure HP where
 wr:Bool
 p:World→(Nat→Prop)→Prop
 stable: ∀w w' S,p w S→(∀k,S k→w'.heap[k]? =w.heap[k]?)→p w' S
structure V1 where
 v:Value
 one:v.oneCell'=true
def V1.nil:V1:=⟨.nilIface,rfl⟩
structure Env where
 iv:List Int:=[]
 av:List (Nat→Int):=[]
 bo:List Bool:=[]
 bv:List Nat:=[]
 vv:List V1:=[]
 va:List (Nat→V1):=[]
 pv:List HP:=[]
 lr:List Loop:=[]
def L5(o:Vb)(k:IntKind)(x y:Int):Int:=
 let a:=BitVec.ofInt k.bits x
 let b:=BitVec.ofInt k.bits y
 match o with
 | .aP=>k.wrap (a &&& b).toNat
 | .bR=>k.wrap (a|||b).toNat
 | .ay=>k.wrap (a^^^b).toNat
 | _=>k.wrap (a &&& ~~~b).toNat
def ak(o:Vb)(k:IntKind)(x y:Int):Int:=
 match o with
 | .add=>x+y
 | .sub=>x - y
 | .mul=>x*y
 | .quo=>x.tdiv y
 | .rem=>x.tmod y
 | .tE=>if y<x then y else x
 | .imax=>if x<y then y else x
 | .shl=>k.wrap (x*2^(min y.toNat k.bits))
 | .shr=>x.fdiv (2^(min y.toNat k.bits))
 | o=>L5 o k x y
def Jw:Int→Nat
 | .ofNat n=>2*n
 | .negSucc n=>2*n+1
def tF(acc:Nat)(z:Int):Nat:=(2*(acc*2^((Jw z).log2+1)+Jw z)+1)*2^((Jw z).log2+1)
def cR(l:List Int):Nat:=l.foldl tF 0
def cj(f:Nat→Int):List UInt8:=(List.range (f 0).toNat).map fun j=>UInt8.ofNat (f (j+1)).toNat
def Jx(l:List UInt8):Nat→Int
 | 0=>l.length
 | j+1=>((l.getD j 0).toNat:Nat)
theorem mS(l:List UInt8):cj (Jx l)=l:=by
 apply List.ext_getElem?;intro j;simp only [cj,Jx,afe,List.getElem?_map];by_cases h:j<l.length
 ·rw [List.getElem?_range h,afA h];simp [List.getD,afA h]
 ·rw [afz (by simp;omega),afz (by omega)];rfl
theorem cG(f:Nat→Int):(cj f).length=(f 0).toNat:=by simp [cj]
def two:Nat→Nat→Nat×Nat
 | 0,k=>(0,k)
 | d+1,k=>if k%2=1 then(0,k/2)else((two d (k/2)).1+1,(two d (k/2)).2)
def uH(i j:Nat):Nat:=2^i*(2*j+1)
theorem Dt: ∀(i j d:Nat),i<d→two d (uH i j)=(i,j)
 | 0,j,d+1,_=>by unfold two uH;rw [if_pos (by omega)];congr 1;omega
 | i+1,j,d+1,h=>by
  have e:uH (i+1) j=2*uH i j:=by unfold uH;rw [Nat.pow_succ,Nat.mul_comm (2^i) 2,Nat.mul_assoc]
  unfold two;rw [if_neg (by rw [e];omega),e,Nat.mul_div_cancel_left _ (by decide),Dt i j d (by omega)]
def split2(k:Nat):Nat×Nat:=two k k
theorem Du(i j:Nat):split2 (uH i j)=(i,j):=by
 apply Dt;unfold uH;have h1:i<2^i:=Nat.lt_two_pow_self;have h2:2^i*1≤2^i*(2*j+1):=Nat.mul_le_mul_left _ (by omega);omega
def oI(f:Nat→Int)(i:Nat):Nat→Int:=fun j=>f (uH i j)
def Dv(f:Nat→Int)(i:Nat)(s:Nat→Int):Nat→Int:=fun k=>if(split2 k).1=i then s (split2 k).2 else f k
theorem iV(f:Nat→Int)(i j:Nat)(s:Nat→Int):oI (Dv f i s) j=if j=i then s else oI f j:=by
 funext k;simp only [oI,Dv,Du];split<;>rfl
def Jy(f:Nat→Int):Nat→Int:=fun j=>((UInt8.ofNat (f (j+1)).toNat).toNat:Nat)
def E.den(ρ:Env):E→Nat→Int
 | .lit n=>fun _=>n
 | .var i=>fun _=>ρ.iv.getD i 0
 | .aL i=>ρ.av.getD i (fun _=>0)
 | .OL a i=>fun _=>a.den ρ (i.den ρ 0).toNat
 | .bin o k a b=>fun _=>ak o k (a.den ρ 0) (b.den ρ 0)
 | .wrap k a=>fun _=>k.wrap (a.den ρ 0)
 | .r9 a i v=>fun j=>if j=(i.den ρ 0).toNat then v.den ρ 0 else a.den ρ j
 | .shift a o=>fun j=>a.den ρ ((o.den ρ 0).toNat+j)
 | .tw a o n b=>fun j=>if(o.den ρ 0).toNat≤j∧j<(o.den ρ 0).toNat+(n.den ρ 0).toNat then b.den ρ (j - (o.den ρ 0).toNat)else a.den ρ j
 | .kc n a=>fun _=>(cR ((List.range n).map (a.den ρ)):Nat)
 | .mR b=>fun _=>(ρ.bv.getD b 0:Nat)+1
 | .qt l=>fun j=>l.getD j 0
 | .PI a i=>oI (a.den ρ) (i.den ρ 0).toNat
 | .o4 a i s=>Dv (a.den ρ) (i.den ρ 0).toNat (s.den ρ)
 | .RF s=>Jy (s.den ρ)
abbrev E.i(ρ:Env)(e:E):Int:=e.den ρ 0
def BE.den(ρ:Env):BE→Bool
 | .lit b=>b
 | .var i=>ρ.bo.getD i false
 | .eq a b=>a.den ρ 0==b.den ρ 0
 | .lt a b=>decide (a.den ρ 0<b.den ρ 0)
 | .le a b=>decide (a.den ρ 0≤b.den ρ 0)
 | .nz a=> !(a.den ρ 0==0)
 | .RG n a b=>(List.range n).all fun j=>a.den ρ j==b.den ρ j
 | .not a=> !a.den ρ
 | .and a b=>a.den ρ&&b.den ρ
 | .or a b=>a.den ρ||b.den ρ
 | .ite c t e=>if c.den ρ then t.den ρ else e.den ρ
 | .seq a b=>cj (a.den ρ)==cj (b.den ρ)
def BE.prop(ρ:Env):BE→Prop
 | .lit b=>b=true
 | .var i=>ρ.bo.getD i false=true
 | .eq a b=>a.den ρ 0=b.den ρ 0
 | .lt a b=>a.den ρ 0<b.den ρ 0
 | .le a b=>a.den ρ 0≤b.den ρ 0
 | .nz a=>a.den ρ 0≠0
 | .RG n a b=> ∀j,j<n→a.den ρ j=b.den ρ j
 | .not a=> ¬a.prop ρ
 | .and a b=>a.prop ρ∧b.prop ρ
 | .or a b=>a.prop ρ∨b.prop ρ
 | .ite c t e=>(c.prop ρ→t.prop ρ)∧(¬c.prop ρ→e.prop ρ)
 | .seq a b=>cj (a.den ρ)=cj (b.den ρ)
theorem BE.cc(ρ:Env)(b:BE):b.den ρ=true↔b.prop ρ:=by
 induction b with
 | lit b=>rfl
 | var i=>rfl
 | eq a b=>simp [BE.den,BE.prop]
 | lt a b=>simp [BE.den,BE.prop]
 | le a b=>simp [BE.den,BE.prop]
 | nz a=>simp [BE.den,BE.prop]
 | RG n a b=>simp [BE.den,BE.prop]
 | not a ih=>simp [BE.den,BE.prop,←ih]
 | and a b lG r_=>simp [BE.den,BE.prop,lG,r_]
 | or a b lG r_=>simp [BE.den,BE.prop,lG,r_]
 | ite c t e Yg S3 S4=>
  simp only [BE.den,BE.prop,←Yg,←S3,←S4];cases c.den ρ<;>simp
 | seq a b=>simp [BE.den,BE.prop]
structure Cut where
 lo:E
 hi:E
 mx:Option E
 deriving DecidableEq,Repr,Inhabited
inductive SV where
 | int (k:IntKind) (e:E)
 | bool (b:BE)
 | gI | b_ | lH | sd | qu | undef
 | ptr (b c:Nat)
 | oJ (b:Nat) (i:E) (s c:Nat)
 | pv (v:Nat) (i:E) (s c:Nat)
 | sl (b:Nat) (i:E) (s:Nat) (n m:E)
 | vv (i:Nat)
 | str (l:List UInt8)
 | fn (f:Nat) (caps:List SV)
 | agg (cs:List SV)
 | cE (k:IntKind) (n:Nat) (a:E)
 | rR (vs:List SV)
 | opt (c:BE) (v:SV)
 | Dw (a:Nat) (i:E)
 | Jz (l:Nat)
 | mp (b:Nat)
 | jP (v:Nat) (cs:List Cut) (s:Nat)
 | nH (e:E)
 | kg (s:E)
 | FZ (c:BE) (v:Nat)
 | L6 (t:Nat) (k:IntKind) (e:E)
 | K9 (e:E)
 deriving Repr,Inhabited
def al(k:IntKind)(n:Nat)(f:Nat→Int):List Value:=(List.range n).map fun j=> .int k (f j)
def eG(v:Value)(n:Nat):Value:=
 match v with
 | .slice (some a) _ _=> .pointer (some (a.add n))
 | _=> .pointer none
def aD(s:Nat)(v:Value)(lo hi:Nat)(mx:Option Nat):Value:=
 match v with
 | .slice a _ c=> .slice (if mx.getD c=lo then a else a.map (·.add (lo*s))) (hi - lo) (mx.getD c - lo)
 | _=> .nilIface
theorem aK(s:Nat)(v:Value)(lo hi:Nat)(mx:Option Nat):(aD s v lo hi mx).oneCell'=true:=by
 unfold aD;split<;>rfl
def cY(ρ:Env)(s:Nat)(v:Value):List Cut→Value
 | []=>v
 | c::r=>cY ρ s (aD s v (c.lo.den ρ 0).toNat (c.hi.den ρ 0).toNat (c.mx.map fun m=>(m.den ρ 0).toNat)) r
theorem mh(ρ:Env)(s:Nat): ∀(cs:List Cut) (v:Value),v.oneCell'=true→(cY ρ s v cs).oneCell'=true
 | [],_,h=>h
 | _::r,_,_=>mh ρ s r _ (aK ..)
theorem mT(ρ:Env)(s:Nat): ∀(a b:List Cut) (v:Value),cY ρ s v (a++b)=cY ρ s (cY ρ s v a) b
 | [],_,_=>rfl
 | _::r,b,_=>mT ρ s r b _
def mU(z:Int):Value:=if z=0 then .pointer none else .pointer (some ⟨(z - 1).toNat,0,none⟩)
theorem se(b:Nat):mU ((b:Nat)+1)= .pointer (some ⟨b,0,none⟩):=by
 unfold mU;rw [if_neg (by omega),show((b:Int)+1 - 1).toNat=b by omega]
theorem Dx(z:Int):(mU z).oneCell'=true:=by unfold mU;split<;>rfl
def Bf(z:Int):Value:=if z=0 then .slice none 0 0 else
 .slice (some ⟨(split2 z.toNat).1,(split2 (split2 z.toNat).2).1,none⟩) (split2 (split2 (split2 z.toNat).2).2).1 (split2 (split2 (split2 z.toNat).2).2).2
theorem L7:Bf 0= .slice none 0 0:=rfl
theorem Dy(z:Int):(Bf z).oneCell'=true:=by unfold Bf;split<;>rfl
def sf(x:Value):Value:=
 match x with
 | .iface t v=> .iface t v
 | x=> .iface 0 x
mutual
def SV.val(ρ:Env):SV→Value
 | .int k e=> .int k (e.den ρ 0)
 | .bool b=> .bool (b.den ρ)
 | .gI=> .pointer none
 | .b_=> .slice none 0 0
 | .lH=> .nilFunc
 | .sd=> .nilIface
 | .qu=> .map none
 | .undef=>Go.undef
 | .ptr b c=> .pointer (some ⟨ρ.bv.getD b 0,c,none⟩)
 | .oJ b i s c=> .pointer (some ⟨ρ.bv.getD b 0,(i.den ρ 0).toNat*s+c,none⟩)
 | .pv v i s c=>eG (ρ.vv.getD v V1.nil).v ((i.den ρ 0).toNat*s+c)
 | .sl b i s n m=> .slice (some ⟨ρ.bv.getD b 0,(i.den ρ 0).toNat*s,none⟩) (n.den ρ 0).toNat (m.den ρ 0).toNat
 | .vv i=>(ρ.vv.getD i V1.nil).v
 | .str l=> .string ⟨l.toArray⟩
 | .fn f caps=> .func (.func f) #[] (SV.vals ρ caps).toArray
 | .agg cs=> .agg (SV.aC ρ cs).toArray
 | .cE k n a=> .agg (al k n (a.den ρ)).toArray
 | .rR vs=> .tuple (SV.vals ρ vs).toArray
 | .opt c v=>if c.den ρ then v.val ρ else Go.undef
 | .Dw a i=>((ρ.va.getD a fun _=>V1.nil) (i.den ρ 0).toNat).v
 | .Jz l=> .func (.yield (ρ.bv.getD l 0)) #[] #[]
 | .mp b=> .map (some (ρ.bv.getD b 0))
 | .jP v cs s=>cY ρ s (ρ.vv.getD v V1.nil).v cs
 | .nH e=>mU (e.den ρ 0)
 | .kg s=> .string ⟨(cj (s.den ρ)).toArray⟩
 | .FZ c v=>if c.den ρ then sf (ρ.vv.getD v V1.nil).v else .nilIface
 | .L6 t k e=> .iface t (.int k (e.den ρ 0))
 | .K9 e=>Bf (e.den ρ 0)
def SV.vals(ρ:Env):List SV→List Value
 | []=>[]
 | v::r=>v.val ρ::SV.vals ρ r
def SV.aC(ρ:Env):List SV→List Value
 | []=>[]
 | v::r=>SV.cells ρ v++SV.aC ρ r
def SV.cells(ρ:Env):SV→List Value
 | .agg cs=>SV.aC ρ cs
 | .cE k n a=>al k n (a.den ρ)
 | .int k e=>[.int k (e.den ρ 0)]
 | .bool b=>[.bool (b.den ρ)]
 | .gI=>[.pointer none]
 | .b_=>[.slice none 0 0]
 | .lH=>[.nilFunc]
 | .sd=>[.nilIface]
 | .qu=>[.map none]
 | .undef=>[Go.undef]
 | .ptr b c=>[.pointer (some ⟨ρ.bv.getD b 0,c,none⟩)]
 | .oJ b i s c=>[.pointer (some ⟨ρ.bv.getD b 0,(i.den ρ 0).toNat*s+c,none⟩)]
 | .pv v i s c=>[eG (ρ.vv.getD v V1.nil).v ((i.den ρ 0).toNat*s+c)]
 | .sl b i s n m=>[.slice (some ⟨ρ.bv.getD b 0,(i.den ρ 0).toNat*s,none⟩) (n.den ρ 0).toNat (m.den ρ 0).toNat]
 | .vv i=>[(ρ.vv.getD i V1.nil).v]
 | .str l=>[.string ⟨l.toArray⟩]
 | .fn f caps=>[.func (.func f) #[] (SV.vals ρ caps).toArray]
 | .rR vs=>[.tuple (SV.vals ρ vs).toArray]
 | .opt c v=>[if c.den ρ then v.val ρ else Go.undef]
 | .Dw a i=>[((ρ.va.getD a fun _=>V1.nil) (i.den ρ 0).toNat).v]
 | .Jz l=>[.func (.yield (ρ.bv.getD l 0)) #[] #[]]
 | .mp b=>[.map (some (ρ.bv.getD b 0))]
 | .jP v cs s=>[cY ρ s (ρ.vv.getD v V1.nil).v cs]
 | .nH e=>[mU (e.den ρ 0)]
 | .kg s=>[.string ⟨(cj (s.den ρ)).toArray⟩]
 | .FZ c v=>[if c.den ρ then sf (ρ.vv.getD v V1.nil).v else .nilIface]
 | .L6 t k e=>[.iface t (.int k (e.den ρ 0))]
 | .K9 e=>[Bf (e.den ρ 0)]
end
structure fV (w w':World):Prop where
 os:w'.os=w.os
 tape:w'.tape=w.tape
 output:w'.output=w.output
 size:w.heap.size≤w'.heap.size
theorem fV.refl(w:World):fV w w:=⟨rfl,rfl,rfl,Nat.le_refl _⟩
theorem fV.trans{a b c:World}(h:fV a b)(k:fV b c):fV a c:=
 ⟨k.os.trans h.os,k.tape.trans h.tape,k.output.trans h.output,Nat.le_trans h.size k.size⟩
structure Sep (hs:List HP) (S:Nat→Nat→Prop) (w:World):Prop where
 at_: ∀i h,hs[i]? =some h→h.p w (S i)∧∀k,S i k→k<w.heap.size
 apart: ∀i j hi hj,i≠j→hs[i]? =some hi→hs[j]? =some hj→(hi.wr=true∨hj.wr=true)→∀k,S i k→¬S j k
def bK(hs:List HP)(w:World):Prop:= ∃S,Sep hs S w
def HP.emp:HP:=⟨false,fun _ S=> ∀k,¬S k,fun _ _ _ h _=>h⟩
theorem bK.pick{hs:List HP}{w:World}(h:bK hs w)(idx:List Nat)(nI:List HP)(gn:idx.Nodup)
  (he: ∀j:Nat,nI[j]? =(idx[j]?).bind (fun i=>hs[i]?)):bK nI w:=by
 obtain⟨S,hS⟩:=h;refine⟨fun j=>S (idx.getD j 0),⟨?_,?_⟩⟩
 ·intro j x hx;rw [he]at hx;cases hj:idx[j]? with
  | none=>simp [hj]at hx
  | some i=>
   simp only [hj,Option.bind_some]at hx;have:idx.getD j 0=i:=by simp [List.getD,hj]
   rw [this];exact hS.at_ i x hx
 ·intro i j hi hj eZ Xu Xv hw k;rw [he]at Xu Xv;cases mi:idx[i]? with
  | none=>simp [mi]at Xu
  | some ii=>
   cases k9:idx[j]? with
   | none=>simp [k9]at Xv
   | some jj=>
    simp only [mi,k9,Option.bind_some]at Xu Xv;have e1:idx.getD i 0=ii:=by simp [List.getD,mi]
    have e2:idx.getD j 0=jj:=by simp [List.getD,k9]
    rw [e1,e2];refine hS.apart ii jj hi hj ?_ Xu Xv hw k;intro e;subst e;rw [aeV]at mi k9;obtain⟨a1,b1⟩:=mi;obtain⟨a2,b2⟩:=k9;have hpw:=List.pairwise_iff_getElem.1 gn;rcases Nat.lt_or_gt_of_ne eZ with h | h
    ·exact hpw i j a1 a2 h (b1.trans b2.symm)
    ·exact hpw j i a2 a1 h (b2.trans b1.symm)
theorem Sep.step{hs:List HP}{S:Nat→Nat→Prop}{w w':World}(h:Sep hs S w)(i:Nat)(h0 h':HP)(hi:hs[i]? =some h0)(hw:h0.wr=true)
  (S':Nat→Prop) (iW:w.heap.size≤w'.heap.size) (sg: ∀k,k<w.heap.size→¬S i k→w'.heap[k]? =w.heap[k]?)
  (hp:h'.p w' S') (dI: ∀k,S' k→S i k∨(w.heap.size≤k∧k<w'.heap.size)):
  Sep (hs.set i h') (fun j=>if j=i then S' else S j) w':=by
 have bU:i<hs.length:=(aeV.1 hi).1;refine⟨?_,?_⟩
 ·intro j x hx;by_cases hj:j=i
  ·subst hj;rw [List.getElem?_set_self bU]at hx;cases hx;simp only [if_true];refine⟨hp,fun k hk=>?_⟩;rcases dI k hk with h1 | h1
   ·exact ae_ ((h.at_ _ _ hi).2 k h1) iW
   ·exact h1.2
  ·rw [afn (Ne.symm hj)]at hx;simp only [hj,if_false];obtain⟨Yh,hb⟩:=h.at_ j x hx;refine⟨x.stable w w' _ Yh fun k hk=>sg k (hb k hk) ?_,fun k hk=>ae_ (hb k hk) iW⟩;exact fun RH=>h.apart i j h0 x (Ne.symm hj) hi hx (.inl hw) k RH hk
 ·intro a b ha hb eZ OM OO tx k;by_cases PJ:a=i
  ·subst PJ;have Yi:b≠a:=Ne.symm eZ;rw [afn eZ]at OO;simp only [if_true,Yi,if_false];intro hk K_;rcases dI k hk with h1 | h1
   ·exact h.apart a b h0 hb eZ hi OO (.inl hw) k h1 K_
   ·exact absurd ((h.at_ b hb OO).2 k K_) (by omega)
  ·rw [afn (Ne.symm PJ)]at OM;by_cases S5:b=i
   ·subst S5;simp only [if_true,PJ,if_false];intro hk K_;rcases dI k K_ with h1 | h1
    ·exact h.apart a b ha h0 eZ OM hi (.inr hw) k hk h1
    ·exact absurd ((h.at_ a ha OM).2 k hk) (by omega)
   ·rw [afn (Ne.symm S5)]at OO;simp only [PJ,S5,if_false];exact h.apart a b ha hb eZ OM OO tx k
theorem Sep.keep{hs:List HP}{S:Nat→Nat→Prop}{w w':World}(h:Sep hs S w)(iW:w.heap.size≤w'.heap.size)
  (sg: ∀k,k<w.heap.size→w'.heap[k]? =w.heap[k]?):Sep hs S w':=by
 refine⟨fun i x hx=>?_,h.apart⟩;obtain⟨hp,hb⟩:=h.at_ i x hx;exact⟨x.stable w w' _ hp fun k hk=>sg k (hb k hk),fun k hk=>ae_ (hb k hk) iW⟩
theorem Sep.new{hs:List HP}{S:Nat→Nat→Prop}{w w':World}(h:Sep hs S w)(i:Nat)(h':HP)(hi:hs[i]? =some HP.emp)
  (S':Nat→Prop) (iW:w.heap.size≤w'.heap.size) (sg: ∀k,k<w.heap.size→w'.heap[k]? =w.heap[k]?)
  (hp:h'.p w' S') (dI: ∀k,S' k→w.heap.size≤k∧k<w'.heap.size):
  Sep (hs.set i h') (fun j=>if j=i then S' else S j) w':=by
 have bU:i<hs.length:=(aeV.1 hi).1;refine⟨?_,?_⟩
 ·intro j x hx;by_cases hj:j=i
  ·subst hj;rw [List.getElem?_set_self bU]at hx;cases hx;simp only [if_true];exact⟨hp,fun k hk=>(dI k hk).2⟩
  ·rw [afn (Ne.symm hj)]at hx;simp only [hj,if_false];obtain⟨Yh,hb⟩:=h.at_ j x hx;exact⟨x.stable w w' _ Yh fun k hk=>sg k (hb k hk),fun k hk=>ae_ (hb k hk) iW⟩
 ·intro a b ha hb eZ OM OO tx k;by_cases PJ:a=i
  ·subst PJ;have Yi:b≠a:=Ne.symm eZ;rw [afn eZ]at OO;simp only [if_true,Yi,if_false];intro hk K_;have:=(h.at_ b hb OO).2 k K_;have:=dI k hk;omega
  ·rw [afn (Ne.symm PJ)]at OM;by_cases S5:b=i
   ·subst S5;simp only [if_true,PJ,if_false];intro hk K_;have:=(h.at_ a ha OM).2 k hk;have:=dI k K_;omega
   ·rw [afn (Ne.symm S5)]at OO;simp only [PJ,S5,if_false];exact h.apart a b ha hb eZ OM OO tx k
def ax(b:Nat)(wr:Bool)(cs:List Value):HP where
 wr:=wr
 p w S:=(∀k,S k↔k=b)∧∃ty fz,w.heap[b]? =some (.cells cs.toArray ty fz)∧(wr=true→fz=(0,0))
 stable w w' S h hk:=by
  obtain⟨h1,ty,fz,h2,h3⟩:=h;exact⟨h1,ty,fz,(hk b ((h1 b).2 rfl)).trans h2,h3⟩
def RI(b:Nat)(l:List UInt8)(pos:Nat):HP where
 wr:=true
 p w S:=(∀k,S k↔k=b)∧w.heap[b]? =some (.stringIter ⟨l.toArray⟩ pos)
 stable _ _ _ h hk:=⟨h.1,(hk b ((h.1 b).2 rfl)).trans h.2⟩
def RJ(b t e:Nat)(bs:List Value):HP where
 wr:=true
 p w S:= ∃pv v,w.heap[b]? =some (.cells #[pv,v] t (0,0))∧(pv= .pointer none∨pv= .pointer (some ⟨b,0,none⟩))∧w.ownsRow 0 e 1 v bs.length bs∧
  v.ownBlock≠some b∧∀k,S k↔k=b∨v.ownBlock=some k
 stable w w' S h hk:=by
  obtain⟨pv,v,h1,h2,h3,h4,h5⟩:=h;refine⟨pv,v,(hk b ((h5 b).2 (.inl rfl))).trans h1,h2,⟨h3.1,?_⟩,h4,h5⟩;rcases h3.2 with hn | ⟨g,cap,cur,rfl,hB,hg,r⟩
  ·exact .inl hn
  ·exact .inr ⟨g,cap,cur,rfl,hB,(hk g ((h5 g).2 (.inr rfl))).trans hg,r⟩
def L8(l:Nat)(r:Loop):HP where
 wr:=true
 p w S:=(∀k,S k↔k=l)∧w.heap[l]? =some (.loop r)
 stable w w' S h hk:=⟨h.1,by rw [hk l ((h.1 l).2 rfl)];exact h.2⟩
def xe(b:Nat):HP where
 wr:=true
 p w S:=(∀k,S k↔k=b)∧w.heap[b]? =some (.deferred (some []))
 stable w w' S h hk:=⟨h.1,by rw [hk b ((h.1 b).2 rfl)];exact h.2⟩
def kj(l:List Nat):HP where
 wr:=true
 p w S:=(∀k,S k↔k∈l)∧l.Nodup∧∀b,b∈l→w.heap[b]? =some (.deferred (some []))
 stable w w' S h hk:=⟨h.1,h.2.1,fun b hb=>by rw [hk b ((h.1 b).2 hb)];exact h.2.2 b hb⟩
def nJ:List Nat→Nat
 | []=>0
 | x::r=>2^x*(2*nJ r+1)
theorem L9: ∀{l m:List Nat},nJ l=nJ m→l=m:=by
 have pos: ∀(x:Nat) (r:List Nat),0<nJ (x::r):=fun x r=>Nat.mul_pos (Nat.pow_pos (by decide)) (by omega)
 have key: ∀(x y a b:Nat),2^x*(2*a+1)=2^y*(2*b+1)→x=y∧a=b:=by
  intro x
  induction x with
  | zero=>
   intro y a b h;cases y with
   | zero=>simp at h;exact⟨rfl,by omega⟩
   | succ y=>rw [Nat.pow_succ,Nat.mul_right_comm]at h;omega
  | succ x ih=>
   intro y a b h;cases y with
   | zero=>rw [Nat.pow_succ,Nat.mul_right_comm]at h;omega
   | succ y=>
    rw [Nat.pow_succ,Nat.pow_succ,Nat.mul_right_comm,Nat.mul_right_comm _ 2]at h;obtain⟨h1,h2⟩:=ih y a b (by omega);exact⟨by omega,h2⟩
 intro l
 induction l with
 | nil=>
  intro m h;cases m with
  | nil=>rfl
  | cons y s=>have:=pos y s;rw [←h]at this;simp [nJ]at this
 | cons x r ih=>
  intro m h;cases m with
  | nil=>have:=pos x r;rw [h]at this;simp [nJ]at this
  | cons y s=>
   obtain⟨rfl,h2⟩:=key _ _ _ _ h;rw [ih h2]
open Classical in
noncomputable def o5(n:Nat):List Nat:=if h: ∃l,nJ l=n then h.choose else []
theorem nK(l:List Nat):o5 (nJ l)=l:=by
 have h: ∃m,nJ m=nJ l:=⟨l,rfl⟩;unfold o5;rw [dif_pos h];exact L9 h.choose_spec
def World.views(w:World)(v:Value)(n:Nat)(cs:List Value):Prop:=
 ∃a m c,v= .slice a m c∧m=n∧m≤c∧(a=none→n=0)∧
  ∀ad,a=some ad→(0<n→ad.spot=none)∧∀(j:Nat) u,cs[j]? =some u→w.cell? (ad.add j)=some u
def _root_.Go.World.g_(w:World)(_ s:Nat)(v:Value)(n:Nat)(cs:List Value):Prop:=
 cs.length=n*s∧((v= .slice none 0 0∧n=0)∨
  ∃g o cap cur,v= .slice (some ⟨g,o,none⟩) n cap∧(∃t',w.heap[g]? =some (.cells cur t' (0,0)))∧n≤cap∧cap≤maxLen∧(0<cap→o+cap*s≤cur.size)∧(cur.toList.drop o).take (n*s)=cs)
theorem js(w:World)(t s:Nat):w.g_ t s (.slice none 0 0) 0 []:=⟨by simp,.inl ⟨rfl,rfl⟩⟩
theorem JA{w:World}{t s n:Nat}{v:Value}{cs:List Value}(h:w.ownsRow 0 t s v n cs):w.g_ t s v n cs:=by
 obtain⟨hl,hr⟩:=h;refine⟨hl,?_⟩;rcases hr with hn | ⟨g,cap,cur,he,_,hg,CI,OP,mj,CJ⟩
 ·exact .inl hn
 ·exact .inr ⟨g,0,cap,cur,he,⟨t,hg⟩,CI,OP,by omega,by simpa using CJ⟩
theorem gJ{w:World}{t s n:Nat}{v:Value}{cs:List Value}(h:w.g_ t s v n cs){k:Nat}(hk:v.ownBlock=some k):k<w.heap.size:=by
 rcases h.2 with⟨rfl,_⟩ | ⟨g,o,cap,cur,rfl,⟨_,hg⟩,_⟩
 ·simp [Value.ownBlock]at hk
 ·simp only [Value.ownBlock,aeX]at hk;subst hk;exact(ae5.1 hg).1
theorem eI(g o j:Nat):(⟨g,o,none⟩:Addr).add j=⟨g,o+j,none⟩:=by unfold Addr.add;split<;>simp_all
theorem iX{w:World}{t s n:Nat}{cs:List Value}{g o m c:Nat}(h:w.g_ t s (.slice (some ⟨g,o,none⟩) m c) n cs): ∀j u,cs[j]? =some u→w.cell? ((⟨g,o,none⟩:Addr).add j)=some u:=by
 intro j u hu;rcases h.2 with⟨he,_⟩ | ⟨g',o',cap,cur,he,⟨t',hgg⟩,_,_,_,L_⟩
 ·simp at he
 ·simp only [Value.slice.injEq,aeX,Addr.mk.injEq,and_true]at he;obtain⟨⟨rfl,rfl⟩,_⟩:=he;rw [eI,cell_of_row w g (o+j) cur t' (0,0) hgg];rw [←L_,List.getElem?_take]at hu;split at hu
  ·rw [List.getElem?_drop]at hu;simpa using hu
  ·cases hu
def aE(md:Bool)(t s:Nat)(v:Value)(n:Nat)(cs:List Value):HP where
 wr:=md
 p w S:=(if md then w.g_ t s v n cs else cs.length=n*s∧World.views w v n cs)∧∀k,S k↔v.ownBlock=some k∧(md=true∨0<n)
 stable w w' S h hk:=by
  refine⟨?_,h.2⟩;obtain⟨h0,h2⟩:=h;cases md with
  | true=>
   simp only [if_true]at h0 ⊢;obtain⟨hl,hr⟩:=h0;refine⟨hl,?_⟩;rcases hr with hn | ⟨g,o,cap,cur,rfl,⟨t',hg⟩,rest⟩
   ·exact .inl hn
   ·refine .inr ⟨g,o,cap,cur,rfl,⟨t',?_⟩,rest⟩;rw [hk g ((h2 g).2 ⟨by simp [Value.ownBlock],.inl rfl⟩)];exact hg
  | false=>
   simp only [Bool.false_eq_true,if_false]at h0 ⊢;obtain⟨hl,a,m,c,rfl,hm,PK,ko,hc⟩:=h0;refine⟨hl,a,m,c,rfl,hm,PK,ko,fun ad pW=>⟨(hc ad pW).1,fun j u hu=>?_⟩⟩;subst pW;have:=(hc ad rfl).2 j u hu;have hn:0<n:=by
    apply Nat.pos_of_ne_zero;rintro rfl;have mj:cs=[]:=aff (by simpa using hl);rw [mj]at hu;simp at hu
   have hb:=hk ad.block ((h2 ad.block).2 ⟨by simp [Value.ownBlock],.inr hn⟩);have kp:(ad.add j).block=ad.block:=by unfold Addr.add;split<;>rfl
   simpa [World.cell?,kp,hb] using this
def eF(agg:Bool)(kl:List IntKind)(ks:List Int):Value:=
 if agg then .agg ((kl.zip ks).map fun x=> .int x.1 x.2).toArray else
 match kl,ks with
 | [k],[n]=> .int k n
 | _,_=> .nilIface
def xf(agg:Bool)(cs:List Value):Value:=
 if agg then .agg cs.toArray else cs.headD .nilIface
structure Vc (es:List MapEntry) (kl:List IntKind) (ka va:Bool) (has:Nat→Bool) (row:Nat→List Value):Prop where
 keys: ∀e∈es,∃ks:List Int,ks.length=kl.length∧e.key=eF ka kl ks∧has (cR ks)=true∧e.val=xf va (row (cR ks))
 once: ∀(i j:Nat) e e',es[i]? =some e→es[j]? =some e'→e.key=e'.key→i=j
 all: ∀ks:List Int,ks.length=kl.length→has (cR ks)=true→∃e∈es,e.key=eF ka kl ks
def uI(b:Nat)(kl:List IntKind)(ka va:Bool)(zero:List Value)(has:Nat→Bool)(row:Nat→List Value):HP where
 wr:=true
 p w S:=(∀k,S k↔k=b)∧(∃es clock,w.heap[b]? =some (.map es clock)∧Vc es.toList kl ka va has row)∧
  (∀ks:List Int,ks.length=kl.length→has (cR ks)=false→row (cR ks)=zero)
 stable w w' S h hk:=by
  refine⟨h.1,?_,h.2.2⟩;obtain⟨es,clock,h1,h2⟩:=h.2.1;exact⟨es,clock,by rw [hk b ((h.1 b).2 rfl)];exact h1,h2⟩
def xg(n:Nat)(w0:World):HP where
 wr:=false
 p w S:=(∀k,S k↔k<n)∧∀k,k<n→w.heap[k]? =w0.heap[k]?
 stable _ _ _ h hk:=⟨h.1,fun k hn=>(hk k ((h.1 k).2 hn)).trans (h.2 k hn)⟩
end Go.RX
