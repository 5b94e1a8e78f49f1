/- Executor. -/
import Derived.OrdersIn
import Derived.WalkKit
open Array renaming getElem?_eq_some_iff → aiY
open Int renaming toNat_natCast → aiX
open List renaming eq_nil_of_length_eq_zero → ai6, getElem?_eq_getElem → ajk, getElem?_eq_none → ajz, getElem?_eq_some_iff → aiN, getElem?_set_ne → ajj, range → ajw
open Nat renaming lt_of_lt_of_le → ai1
open Option.some renaming injEq → aiP
namespace Go.RX
inductive W7 where
 | add | sub | mul | quo | rem | aM | bC | aB | kY | shl | shr | jJ | imax
 deriving DecidableEq,Repr
inductive E where
 | lit (n:Int)
 | var (i:Nat)
 | aN (i:Nat)
 | P1 (a i:E)
 | bin (o:W7) (k:IntKind) (a b:E)
 | wrap (k:IntKind) (a:E)
 | sD (a i v:E)
 | shift (a o:E)
 | rl (a o n b:E)
 | kc (n:Nat) (a:E)
 | oZ (b:Nat)
 | o3 (l:List Int)
 | Qn (a i:E)
 | po (a i s:E)
 | S9 (s:E)
 deriving DecidableEq,Repr,Inhabited
inductive BE where
 | lit (b:Bool)
 | var (i:Nat)
 | eq (a b:E)
 | lt (a b:E)
 | le (a b:E)
 | nz (a:E)
 | S_ (n:Nat) (a b:E)
 | not (a:BE)
 | and (a b:BE)
 | or (a b:BE)
 | ite (c t e:BE)
 | seq (a b:E)
 deriving DecidableEq,Repr,Inhabited
structure HP where
 wr:Bool
 p:World→(Nat→Prop)→Prop
 fy: ∀w w' S,p w S→(∀k,S k→w'.heap[k]? =w.heap[k]?)→p w' S
structure V1 where
 v:Value
 one:v.oneCell'=true
def V1.nil:V1:=⟨.nilIface,rfl⟩
structure Env where
 iv:List Int:=[]
 av:List (Nat→Int):=[]
 bo:List Bool:=[]
 bv:List Nat:=[]
 vv:List V1:=[]
 va:List (Nat→V1):=[]
 pv:List HP:=[]
 lr:List Loop:=[]
def MG(o:W7)(k:IntKind)(x y:Int):Int:=
 let a:=BitVec.ofInt k.bits x
 let b:=BitVec.ofInt k.bits y
 match o with
 | .aM=>k.wrap (a &&& b).toNat
 | .bC=>k.wrap (a|||b).toNat
 | .aB=>k.wrap (a^^^b).toNat
 | _=>k.wrap (a &&& ~~~b).toNat
def ak(o:W7)(k:IntKind)(x y:Int):Int:=
 match o with
 | .add=>x+y
 | .sub=>x - y
 | .mul=>x*y
 | .quo=>x.tdiv y
 | .rem=>x.tmod y
 | .jJ=>if y<x then y else x
 | .imax=>if x<y then y else x
 | .shl=>k.wrap (x*2^(min y.toNat k.bits))
 | .shr=>x.fdiv (2^(min y.toNat k.bits))
 | o=>MG o k x y
def Kc:Int→Nat
 | .ofNat n=>2*n
 | .negSucc n=>2*n+1
def uo(acc:Nat)(z:Int):Nat:=(2*(acc*2^((Kc z).log2+1)+Kc z)+1)*2^((Kc z).log2+1)
def bG(l:List Int):Nat:=l.foldl uo 0
def cd(f:Nat→Int):List UInt8:=(ajw (f 0).toNat).map fun j=>UInt8.ofNat (f (j+1)).toNat
def Kd(l:List UInt8):Nat→Int
 | 0=>l.length
 | j+1=>((l.getD j 0).toNat:Nat)
theorem nr(l:List UInt8):cd (Kd l)=l:=by
 apply List.ext_getElem?;intro j;simp only [cd,Kd,aiX,List.getElem?_map];by_cases h:j<l.length
 ·rw [List.getElem?_range h,ajk h];simp [List.getD,ajk h]
 ·rw [ajz (by simp;omega),ajz (by omega)];rfl
theorem cy(f:Nat→Int):(cd f).length=(f 0).toNat:=by simp [cd]
def two:Nat→Nat→Nat×Nat
 | 0,k=>(0,k)
 | d+1,k=>if k%2=1 then(0,k/2)else((two d (k/2)).1+1,(two d (k/2)).2)
def iQ(i j:Nat):Nat:=2^i*(2*j+1)
theorem DB: ∀(i j d:Nat),i<d→two d (iQ i j)=(i,j)
 | 0,j,d+1,_=>by unfold two iQ;rw [if_pos (by omega)];congr 1;omega
 | i+1,j,d+1,h=>by
  have e:iQ (i+1) j=2*iQ i j:=by unfold iQ;rw [Nat.pow_succ,Nat.mul_comm (2^i) 2,Nat.mul_assoc]
  unfold two;rw [if_neg (by rw [e];omega),e,Nat.mul_div_cancel_left _ (by decide),DB i j d (by omega)]
def cQ(k:Nat):Nat×Nat:=two k k
theorem dP(i j:Nat):cQ (iQ i j)=(i,j):=by
 apply DB;unfold iQ;have h1:i<2^i:=Nat.lt_two_pow_self;have h2:2^i*1≤2^i*(2*j+1):=Nat.mul_le_mul_left _ (by omega);omega
def o4(f:Nat→Int)(i:Nat):Nat→Int:=fun j=>f (iQ i j)
def DC(f:Nat→Int)(i:Nat)(s:Nat→Int):Nat→Int:=fun k=>if(cQ k).1=i then s (cQ k).2 else f k
theorem jh(f:Nat→Int)(i j:Nat)(s:Nat→Int):o4 (DC f i s) j=if j=i then s else o4 f j:=by
 funext k;simp only [o4,DC,dP];split<;>rfl
def Ke(f:Nat→Int):Nat→Int:=fun j=>((UInt8.ofNat (f (j+1)).toNat).toNat:Nat)
def E.den(ρ:Env):E→Nat→Int
 | .lit n=>fun _=>n
 | .var i=>fun _=>ρ.iv.getD i 0
 | .aN i=>ρ.av.getD i (fun _=>0)
 | .P1 a i=>fun _=>a.den ρ (i.den ρ 0).toNat
 | .bin o k a b=>fun _=>ak o k (a.den ρ 0) (b.den ρ 0)
 | .wrap k a=>fun _=>k.wrap (a.den ρ 0)
 | .sD a i v=>fun j=>if j=(i.den ρ 0).toNat then v.den ρ 0 else a.den ρ j
 | .shift a o=>fun j=>a.den ρ ((o.den ρ 0).toNat+j)
 | .rl a o n b=>fun j=>if(o.den ρ 0).toNat≤j∧j<(o.den ρ 0).toNat+(n.den ρ 0).toNat then b.den ρ (j - (o.den ρ 0).toNat)else a.den ρ j
 | .kc n a=>fun _=>(bG ((ajw n).map (a.den ρ)):Nat)
 | .oZ b=>fun _=>(ρ.bv.getD b 0:Nat)+1
 | .o3 l=>fun j=>l.getD j 0
 | .Qn a i=>o4 (a.den ρ) (i.den ρ 0).toNat
 | .po a i s=>DC (a.den ρ) (i.den ρ 0).toNat (s.den ρ)
 | .S9 s=>Ke (s.den ρ)
abbrev E.i(ρ:Env)(e:E):Int:=e.den ρ 0
def BE.den(ρ:Env):BE→Bool
 | .lit b=>b
 | .var i=>ρ.bo.getD i false
 | .eq a b=>a.den ρ 0==b.den ρ 0
 | .lt a b=>decide (a.den ρ 0<b.den ρ 0)
 | .le a b=>decide (a.den ρ 0≤b.den ρ 0)
 | .nz a=> !(a.den ρ 0==0)
 | .S_ n a b=>(ajw n).all fun j=>a.den ρ j==b.den ρ j
 | .not a=> !a.den ρ
 | .and a b=>a.den ρ&&b.den ρ
 | .or a b=>a.den ρ||b.den ρ
 | .ite c t e=>if c.den ρ then t.den ρ else e.den ρ
 | .seq a b=>cd (a.den ρ)==cd (b.den ρ)
def BE.prop(ρ:Env):BE→Prop
 | .lit b=>b=true
 | .var i=>ρ.bo.getD i false=true
 | .eq a b=>a.den ρ 0=b.den ρ 0
 | .lt a b=>a.den ρ 0<b.den ρ 0
 | .le a b=>a.den ρ 0≤b.den ρ 0
 | .nz a=>a.den ρ 0≠0
 | .S_ n a b=> ∀j,j<n→a.den ρ j=b.den ρ j
 | .not a=> ¬a.prop ρ
 | .and a b=>a.prop ρ∧b.prop ρ
 | .or a b=>a.prop ρ∨b.prop ρ
 | .ite c t e=>(c.prop ρ→t.prop ρ)∧(¬c.prop ρ→e.prop ρ)
 | .seq a b=>cd (a.den ρ)=cd (b.den ρ)
theorem BE.bZ(ρ:Env)(b:BE):b.den ρ=true↔b.prop ρ:=by
 induction b with
 | lit b=>rfl
 | var i=>rfl
 | eq a b=>simp [BE.den,BE.prop]
 | lt a b=>simp [BE.den,BE.prop]
 | le a b=>simp [BE.den,BE.prop]
 | nz a=>simp [BE.den,BE.prop]
 | S_ n a b=>simp [BE.den,BE.prop]
 | not a ih=>simp [BE.den,BE.prop,←ih]
 | and a b mg sE=>simp [BE.den,BE.prop,mg,sE]
 | or a b mg sE=>simp [BE.den,BE.prop,mg,sE]
 | ite c t e ihc Uk Ul=>
  simp only [BE.den,BE.prop,←ihc,←Uk,←Ul];cases c.den ρ<;>simp
 | seq a b=>simp [BE.den,BE.prop]
structure Cut where
 lo:E
 hi:E
 mx:Option E
 deriving DecidableEq,Repr,Inhabited
inductive SV where
 | int (k:IntKind) (e:E)
 | bool (b:BE)
 | gx | bU | mh | sF | qY | undef
 | ptr (b c:Nat)
 | o5 (b:Nat) (i:E) (s c:Nat)
 | pv (v:Nat) (i:E) (s c:Nat)
 | sl (b:Nat) (i:E) (s:Nat) (n m:E)
 | vv (i:Nat)
 | str (l:List UInt8)
 | fn (f:Nat) (jK:List SV)
 | agg (cs:List SV)
 | b_ (k:IntKind) (n:Nat) (a:E)
 | mu (vs:List SV)
 | opt (c:BE) (v:SV)
 | DE (a:Nat) (i:E)
 | Kf (l:Nat)
 | mp (b:Nat)
 | kg (v:Nat) (cs:List Cut) (s:Nat)
 | n8 (e:E)
 | kK (s:E)
 | GK (c:BE) (v:Nat)
 | MH (t:Nat) (k:IntKind) (e:E)
 | Kg (e:E)
 deriving Repr,Inhabited
def aj(k:IntKind)(n:Nat)(f:Nat→Int):List Value:=(ajw n).map fun j=> .int k (f j)
def ez(v:Value)(n:Nat):Value:=
 match v with
 | .slice (some a) _ _=> .pointer (some (a.add n))
 | _=> .pointer none
def aC(s:Nat)(v:Value)(lo hi:Nat)(mx:Option Nat):Value:=
 match v with
 | .slice a _ c=> .slice (if mx.getD c=lo then a else a.map (·.add (lo*s))) (hi - lo) (mx.getD c - lo)
 | _=> .nilIface
theorem aX(s:Nat)(v:Value)(lo hi:Nat)(mx:Option Nat):(aC s v lo hi mx).oneCell'=true:=by
 unfold aC;split<;>rfl
def cS(ρ:Env)(s:Nat)(v:Value):List Cut→Value
 | []=>v
 | c::r=>cS ρ s (aC s v (c.lo.den ρ 0).toNat (c.hi.den ρ 0).toNat (c.mx.map fun m=>(m.den ρ 0).toNat)) r
theorem mQ(ρ:Env)(s:Nat): ∀(cs:List Cut) (v:Value),v.oneCell'=true→(cS ρ s v cs).oneCell'=true
 | [],_,h=>h
 | _::r,_,_=>mQ ρ s r _ (aX ..)
theorem ns(ρ:Env)(s:Nat): ∀(a b:List Cut) (v:Value),cS ρ s v (a++b)=cS ρ s (cS ρ s v a) b
 | [],_,_=>rfl
 | _::r,b,_=>ns ρ s r b _
def nu(z:Int):Value:=if z=0 then .pointer none else .pointer (some ⟨(z - 1).toNat,0,none⟩)
theorem sG(b:Nat):nu ((b:Nat)+1)= .pointer (some ⟨b,0,none⟩):=by
 unfold nu;rw [if_neg (by omega),show((b:Int)+1 - 1).toNat=b by omega]
theorem DF(z:Int):(nu z).oneCell'=true:=by unfold nu;split<;>rfl
def MI(q:Nat):Value:=if(cQ q).1=0 then .slice none (cQ (cQ q).2).1 (cQ (cQ q).2).2 else
 .slice (some ⟨(cQ q).1 - 1,(cQ (cQ q).2).1,some (cQ (cQ (cQ q).2).2).1⟩) (cQ (cQ (cQ (cQ q).2).2).2).1 (cQ (cQ (cQ (cQ q).2).2).2).2
def bQ(z:Int):Value:=if z=0 then .slice none 0 0 else if z<0 then MI (-z).toNat else
 .slice (some ⟨(cQ z.toNat).1,(cQ (cQ z.toNat).2).1,none⟩) (cQ (cQ (cQ z.toNat).2).2).1 (cQ (cQ (cQ z.toNat).2).2).2
def Qo(b o n c:Nat):Int:=(iQ b (iQ o (iQ n c)):Nat)
theorem uq(i j:Nat):0<iQ i j:=Nat.mul_pos (Nat.two_pow_pos i) (by omega)
theorem MJ:bQ 0= .slice none 0 0:=rfl
theorem AL(b o n c:Nat):bQ (Qo b o n c)= .slice (some ⟨b,o,none⟩) n c:=by
 have:=uq b (iQ o (iQ n c));unfold bQ Qo;rw [if_neg (by omega),if_neg (by omega),aiX,dP,dP,dP]
theorem dV(z:Int):(bQ z).oneCell'=true:=by
 unfold bQ;split
 ·rfl
 ·split
  ·unfold MI;split<;>rfl
  ·rfl
theorem xG(a:Option Addr)(n c:Nat): ∃z:Int,.slice a n c=bQ z:=by
 have key: ∀q:Nat,0<q→bQ (-(q:Int))=MI q:=by
  intro q hq;unfold bQ;rw [if_neg (by omega),if_pos (by omega),Int.neg_neg,aiX]
 cases a with
 | none=>
  refine⟨-((iQ 0 (iQ n c):Nat):Int),?_⟩;rw [key _ (uq _ _)];unfold MI;rw [dP,dP,if_pos rfl]
 | some a=>
  obtain⟨b,o,sp⟩:=a;cases sp with
  | none=>exact⟨Qo b o n c,(AL b o n c).symm⟩
  | some k=>
   refine⟨-((iQ (b+1) (iQ o (iQ k (iQ n c))):Nat):Int),?_⟩;rw [key _ (uq _ _)];unfold MI;rw [dP,dP,dP,dP,if_neg (by omega)];rfl
def sH(x:Value):Value:=
 match x with
 | .iface t v=> .iface t v
 | x=> .iface 0 x
mutual
def SV.val(ρ:Env):SV→Value
 | .int k e=> .int k (e.den ρ 0)
 | .bool b=> .bool (b.den ρ)
 | .gx=> .pointer none
 | .bU=> .slice none 0 0
 | .mh=> .nilFunc
 | .sF=> .nilIface
 | .qY=> .map none
 | .undef=>Go.undef
 | .ptr b c=> .pointer (some ⟨ρ.bv.getD b 0,c,none⟩)
 | .o5 b i s c=> .pointer (some ⟨ρ.bv.getD b 0,(i.den ρ 0).toNat*s+c,none⟩)
 | .pv v i s c=>ez (ρ.vv.getD v V1.nil).v ((i.den ρ 0).toNat*s+c)
 | .sl b i s n m=> .slice (some ⟨ρ.bv.getD b 0,(i.den ρ 0).toNat*s,none⟩) (n.den ρ 0).toNat (m.den ρ 0).toNat
 | .vv i=>(ρ.vv.getD i V1.nil).v
 | .str l=> .string ⟨l.toArray⟩
 | .fn f jK=> .func (.func f) #[] (SV.bH ρ jK).toArray
 | .agg cs=> .agg (SV.aA ρ cs).toArray
 | .b_ k n a=> .agg (aj k n (a.den ρ)).toArray
 | .mu vs=> .tuple (SV.bH ρ vs).toArray
 | .opt c v=>if c.den ρ then v.val ρ else Go.undef
 | .DE a i=>((ρ.va.getD a fun _=>V1.nil) (i.den ρ 0).toNat).v
 | .Kf l=> .func (.yield (ρ.bv.getD l 0)) #[] #[]
 | .mp b=> .map (some (ρ.bv.getD b 0))
 | .kg v cs s=>cS ρ s (ρ.vv.getD v V1.nil).v cs
 | .n8 e=>nu (e.den ρ 0)
 | .kK s=> .string ⟨(cd (s.den ρ)).toArray⟩
 | .GK c v=>if c.den ρ then sH (ρ.vv.getD v V1.nil).v else .nilIface
 | .MH t k e=> .iface t (.int k (e.den ρ 0))
 | .Kg e=>bQ (e.den ρ 0)
def SV.bH(ρ:Env):List SV→List Value
 | []=>[]
 | v::r=>v.val ρ::SV.bH ρ r
def SV.aA(ρ:Env):List SV→List Value
 | []=>[]
 | v::r=>SV.cells ρ v++SV.aA ρ r
def SV.cells(ρ:Env):SV→List Value
 | .agg cs=>SV.aA ρ cs
 | .b_ k n a=>aj k n (a.den ρ)
 | .int k e=>[.int k (e.den ρ 0)]
 | .bool b=>[.bool (b.den ρ)]
 | .gx=>[.pointer none]
 | .bU=>[.slice none 0 0]
 | .mh=>[.nilFunc]
 | .sF=>[.nilIface]
 | .qY=>[.map none]
 | .undef=>[Go.undef]
 | .ptr b c=>[.pointer (some ⟨ρ.bv.getD b 0,c,none⟩)]
 | .o5 b i s c=>[.pointer (some ⟨ρ.bv.getD b 0,(i.den ρ 0).toNat*s+c,none⟩)]
 | .pv v i s c=>[ez (ρ.vv.getD v V1.nil).v ((i.den ρ 0).toNat*s+c)]
 | .sl b i s n m=>[.slice (some ⟨ρ.bv.getD b 0,(i.den ρ 0).toNat*s,none⟩) (n.den ρ 0).toNat (m.den ρ 0).toNat]
 | .vv i=>[(ρ.vv.getD i V1.nil).v]
 | .str l=>[.string ⟨l.toArray⟩]
 | .fn f jK=>[.func (.func f) #[] (SV.bH ρ jK).toArray]
 | .mu vs=>[.tuple (SV.bH ρ vs).toArray]
 | .opt c v=>[if c.den ρ then v.val ρ else Go.undef]
 | .DE a i=>[((ρ.va.getD a fun _=>V1.nil) (i.den ρ 0).toNat).v]
 | .Kf l=>[.func (.yield (ρ.bv.getD l 0)) #[] #[]]
 | .mp b=>[.map (some (ρ.bv.getD b 0))]
 | .kg v cs s=>[cS ρ s (ρ.vv.getD v V1.nil).v cs]
 | .n8 e=>[nu (e.den ρ 0)]
 | .kK s=>[.string ⟨(cd (s.den ρ)).toArray⟩]
 | .GK c v=>[if c.den ρ then sH (ρ.vv.getD v V1.nil).v else .nilIface]
 | .MH t k e=>[.iface t (.int k (e.den ρ 0))]
 | .Kg e=>[bQ (e.den ρ 0)]
end
structure fZ (w w':World):Prop where
 os:w'.os=w.os
 tape:w'.tape=w.tape
 output:w'.output=w.output
 size:w.heap.size≤w'.heap.size
theorem fZ.refl(w:World):fZ w w:=⟨rfl,rfl,rfl,Nat.le_refl _⟩
theorem fZ.trans{a b c:World}(h:fZ a b)(k:fZ b c):fZ a c:=
 ⟨k.os.trans h.os,k.tape.trans h.tape,k.output.trans h.output,Nat.le_trans h.size k.size⟩
structure Sep (hs:List HP) (S:Nat→Nat→Prop) (w:World):Prop where
 at_: ∀i h,hs[i]? =some h→h.p w (S i)∧∀k,S i k→k<w.heap.size
 apart: ∀i j hi hj,i≠j→hs[i]? =some hi→hs[j]? =some hj→(hi.wr=true∨hj.wr=true)→∀k,S i k→¬S j k
def bz(hs:List HP)(w:World):Prop:= ∃S,Sep hs S w
def HP.emp:HP:=⟨false,fun _ S=> ∀k,¬S k,fun _ _ _ h _=>h⟩
theorem bz.pick{hs:List HP}{w:World}(h:bz hs w)(idx:List Nat)(nf:List HP)(gu:idx.Nodup)
  (he: ∀j:Nat,nf[j]? =(idx[j]?).bind (fun i=>hs[i]?)):bz nf w:=by
 obtain⟨S,hS⟩:=h;refine⟨fun j=>S (idx.getD j 0),⟨?_,?_⟩⟩
 ·intro j x hx;rw [he]at hx;cases hj:idx[j]? with
  | none=>simp [hj]at hx
  | some i=>
   simp only [hj,Option.bind_some]at hx;have:idx.getD j 0=i:=by simp [List.getD,hj]
   rw [this];exact hS.at_ i x hx
 ·intro i j hi hj dI Ta ZZ hw k;rw [he]at Ta ZZ;cases mv:idx[i]? with
  | none=>simp [mv]at Ta
  | some ii=>
   cases lH:idx[j]? with
   | none=>simp [lH]at ZZ
   | some jj=>
    simp only [mv,lH,Option.bind_some]at Ta ZZ;have e1:idx.getD i 0=ii:=by simp [List.getD,mv]
    have e2:idx.getD j 0=jj:=by simp [List.getD,lH]
    rw [e1,e2];refine hS.apart ii jj hi hj ?_ Ta ZZ hw k;intro e;subst e;rw [aiN]at mv lH;obtain⟨a1,b1⟩:=mv;obtain⟨a2,b2⟩:=lH;have hpw:=List.pairwise_iff_getElem.1 gu;rcases Nat.lt_or_gt_of_ne dI with h | h
    ·exact hpw i j a1 a2 h (b1.trans b2.symm)
    ·exact hpw j i a2 a1 h (b2.trans b1.symm)
theorem Sep.step{hs:List HP}{S:Nat→Nat→Prop}{w w':World}(h:Sep hs S w)(i:Nat)(h0 h':HP)(hi:hs[i]? =some h0)(hw:h0.wr=true)
  (S':Nat→Prop) (ji:w.heap.size≤w'.heap.size) (sI: ∀k,k<w.heap.size→¬S i k→w'.heap[k]? =w.heap[k]?)
  (hp:h'.p w' S') (dB: ∀k,S' k→S i k∨(w.heap.size≤k∧k<w'.heap.size)):
  Sep (hs.set i h') (fun j=>if j=i then S' else S j) w':=by
 have bX:i<hs.length:=(aiN.1 hi).1;refine⟨?_,?_⟩
 ·intro j x hx;by_cases hj:j=i
  ·subst hj;rw [List.getElem?_set_self bX]at hx;cases hx;simp only [if_true];refine⟨hp,fun k hk=>?_⟩;rcases dB k hk with h1 | h1
   ·exact ai1 ((h.at_ _ _ hi).2 k h1) ji
   ·exact h1.2
  ·rw [ajj (Ne.symm hj)]at hx;simp only [hj,if_false];obtain⟨hpx,hb⟩:=h.at_ j x hx;refine⟨x.fy w w' _ hpx fun k hk=>sI k (hb k hk) ?_,fun k hk=>ai1 (hb k hk) ji⟩;exact fun IK=>h.apart i j h0 x (Ne.symm hj) hi hx (.inl hw) k IK hk
 ·intro a b ha hb dI P2 P3 ud k;by_cases Qp:a=i
  ·subst Qp;have Wy:b≠a:=Ne.symm dI;rw [ajj dI]at P3;simp only [if_true,Wy,if_false];intro hk Mn;rcases dB k hk with h1 | h1
   ·exact h.apart a b h0 hb dI hi P3 (.inl hw) k h1 Mn
   ·exact absurd ((h.at_ b hb P3).2 k Mn) (by omega)
  ·rw [ajj (Ne.symm Qp)]at P2;by_cases Um:b=i
   ·subst Um;simp only [if_true,Qp,if_false];intro hk Mn;rcases dB k Mn with h1 | h1
    ·exact h.apart a b ha h0 dI P2 hi (.inr hw) k hk h1
    ·exact absurd ((h.at_ a ha P2).2 k hk) (by omega)
   ·rw [ajj (Ne.symm Um)]at P3;simp only [Qp,Um,if_false];exact h.apart a b ha hb dI P2 P3 ud k
theorem Sep.Un{hs:List HP}{S:Nat→Nat→Prop}{w w':World}(h:Sep hs S w)(ji:w.heap.size≤w'.heap.size)
  (sI: ∀k,k<w.heap.size→w'.heap[k]? =w.heap[k]?):Sep hs S w':=by
 refine⟨fun i x hx=>?_,h.apart⟩;obtain⟨hp,hb⟩:=h.at_ i x hx;exact⟨x.fy w w' _ hp fun k hk=>sI k (hb k hk),fun k hk=>ai1 (hb k hk) ji⟩
theorem Sep.new{hs:List HP}{S:Nat→Nat→Prop}{w w':World}(h:Sep hs S w)(i:Nat)(h':HP)(hi:hs[i]? =some HP.emp)
  (S':Nat→Prop) (ji:w.heap.size≤w'.heap.size) (sI: ∀k,k<w.heap.size→w'.heap[k]? =w.heap[k]?)
  (hp:h'.p w' S') (dB: ∀k,S' k→w.heap.size≤k∧k<w'.heap.size):
  Sep (hs.set i h') (fun j=>if j=i then S' else S j) w':=by
 have bX:i<hs.length:=(aiN.1 hi).1;refine⟨?_,?_⟩
 ·intro j x hx;by_cases hj:j=i
  ·subst hj;rw [List.getElem?_set_self bX]at hx;cases hx;simp only [if_true];exact⟨hp,fun k hk=>(dB k hk).2⟩
  ·rw [ajj (Ne.symm hj)]at hx;simp only [hj,if_false];obtain⟨hpx,hb⟩:=h.at_ j x hx;exact⟨x.fy w w' _ hpx fun k hk=>sI k (hb k hk),fun k hk=>ai1 (hb k hk) ji⟩
 ·intro a b ha hb dI P2 P3 ud k;by_cases Qp:a=i
  ·subst Qp;have Wy:b≠a:=Ne.symm dI;rw [ajj dI]at P3;simp only [if_true,Wy,if_false];intro hk Mn;have:=(h.at_ b hb P3).2 k Mn;have:=dB k hk;omega
  ·rw [ajj (Ne.symm Qp)]at P2;by_cases Um:b=i
   ·subst Um;simp only [if_true,Qp,if_false];intro hk Mn;have:=(h.at_ a ha P2).2 k hk;have:=dB k Mn;omega
   ·rw [ajj (Ne.symm Um)]at P3;simp only [Qp,Um,if_false];exact h.apart a b ha hb dI P2 P3 ud k
def al(b:Nat)(wr:Bool)(cs:List Value):HP where
 wr:=wr
 p w S:=(∀k,S k↔k=b)∧∃ty fz,w.heap[b]? =some (.cells cs.toArray ty fz)∧(wr=true→fz=(0,0))
 fy w w' S h hk:=by
  obtain⟨h1,ty,fz,h2,h3⟩:=h;exact⟨h1,ty,fz,(hk b ((h1 b).2 rfl)).trans h2,h3⟩
def Tb(b:Nat)(l:List UInt8)(pos:Nat):HP where
 wr:=true
 p w S:=(∀k,S k↔k=b)∧w.heap[b]? =some (.stringIter ⟨l.toArray⟩ pos)
 fy _ _ _ h hk:=⟨h.1,(hk b ((h.1 b).2 rfl)).trans h.2⟩
def Tc(b t e:Nat)(bs:List Value):HP where
 wr:=true
 p w S:= ∃pv v,w.heap[b]? =some (.cells #[pv,v] t (0,0))∧(pv= .pointer none∨pv= .pointer (some ⟨b,0,none⟩))∧w.ownsRow 0 e 1 v bs.length bs∧
  v.ownBlock≠some b∧∀k,S k↔k=b∨v.ownBlock=some k
 fy w w' S h hk:=by
  obtain⟨pv,v,h1,h2,h3,h4,h5⟩:=h;refine⟨pv,v,(hk b ((h5 b).2 (.inl rfl))).trans h1,h2,⟨h3.1,?_⟩,h4,h5⟩;rcases h3.2 with hn | ⟨g,cap,cur,rfl,hB,hg,r⟩
  ·exact .inl hn
  ·exact .inr ⟨g,cap,cur,rfl,hB,(hk g ((h5 g).2 (.inr rfl))).trans hg,r⟩
def sB(l:Nat)(r:Loop):HP where
 wr:=true
 p w S:=(∀k,S k↔k=l)∧w.heap[l]? =some (.loop r)
 fy w w' S h hk:=⟨h.1,by rw [hk l ((h.1 l).2 rfl)];exact h.2⟩
def xH(b:Nat):HP where
 wr:=true
 p w S:=(∀k,S k↔k=b)∧w.heap[b]? =some (.deferred (some []))
 fy w w' S h hk:=⟨h.1,by rw [hk b ((h.1 b).2 rfl)];exact h.2⟩
def kM(l:List Nat):HP where
 wr:=true
 p w S:=(∀k,S k↔k∈l)∧l.Nodup∧∀b,b∈l→w.heap[b]? =some (.deferred (some []))
 fy w w' S h hk:=⟨h.1,h.2.1,fun b hb=>by rw [hk b ((h.1 b).2 hb)];exact h.2.2 b hb⟩
def n9:List Nat→Nat
 | []=>0
 | x::r=>2^x*(2*n9 r+1)
theorem ML: ∀{l m:List Nat},n9 l=n9 m→l=m:=by
 have pos: ∀(x:Nat) (r:List Nat),0<n9 (x::r):=fun x r=>Nat.mul_pos (Nat.pow_pos (by decide)) (by omega)
 have key: ∀(x y a b:Nat),2^x*(2*a+1)=2^y*(2*b+1)→x=y∧a=b:=by
  intro x
  induction x with
  | zero=>
   intro y a b h;cases y with
   | zero=>simp at h;exact⟨rfl,by omega⟩
   | succ y=>rw [Nat.pow_succ,Nat.mul_right_comm]at h;omega
  | succ x ih=>
   intro y a b h;cases y with
   | zero=>rw [Nat.pow_succ,Nat.mul_right_comm]at h;omega
   | succ y=>
    rw [Nat.pow_succ,Nat.pow_succ,Nat.mul_right_comm,Nat.mul_right_comm _ 2]at h;obtain⟨h1,h2⟩:=ih y a b (by omega);exact⟨by omega,h2⟩
 intro l
 induction l with
 | nil=>
  intro m h;cases m with
  | nil=>rfl
  | cons y s=>have:=pos y s;rw [←h]at this;simp [n9]at this
 | cons x r ih=>
  intro m h;cases m with
  | nil=>have:=pos x r;rw [h]at this;simp [n9]at this
  | cons y s=>
   obtain⟨rfl,h2⟩:=key _ _ _ _ h;rw [ih h2]
open Classical in
noncomputable def pq(n:Nat):List Nat:=if h: ∃l,n9 l=n then h.choose else []
theorem n_(l:List Nat):pq (n9 l)=l:=by
 have h: ∃m,n9 m=n9 l:=⟨l,rfl⟩;unfold pq;rw [dif_pos h];exact ML h.choose_spec
def World.views(w:World)(v:Value)(n:Nat)(cs:List Value):Prop:=
 ∃a m c,v= .slice a m c∧m=n∧m≤c∧(a=none→n=0)∧
  ∀ad,a=some ad→(0<n→ad.spot=none)∧∀(j:Nat) u,cs[j]? =some u→w.cell? (ad.add j)=some u
def rm(n:Nat)(fz:Nat×Nat):Prop:=fz.2≤fz.1∨n≤fz.1
theorem rm.zero(n:Nat):rm n (0,0):= .inl (Nat.le_refl _)
theorem rm.off{n:Nat}{fz:Nat×Nat}(h:rm n fz){i:Nat}(hi:i<n):(decide (fz.1≤i)&&decide (i<fz.2))=false:=by
 unfold rm at h;simp;omega
def _root_.Go.World.ic(w:World)(_ s:Nat)(v:Value)(n:Nat)(cs:List Value):Prop:=
 cs.length=n*s∧((v= .slice none 0 0∧n=0)∨
  ∃g o cap cur,v= .slice (some ⟨g,o,none⟩) n cap∧(∃t' fz,w.heap[g]? =some (.cells cur t' fz)∧rm cur.size fz)∧n≤cap∧cap≤maxLen∧(0<cap→o+cap*s≤cur.size)∧(cur.toList.drop o).take (n*s)=cs)
theorem jR(w:World)(t s:Nat):w.ic t s (.slice none 0 0) 0 []:=⟨by simp,.inl ⟨rfl,rfl⟩⟩
theorem Kh{w:World}{t s n:Nat}{v:Value}{cs:List Value}(h:w.ownsRow 0 t s v n cs):w.ic t s v n cs:=by
 obtain⟨hl,hr⟩:=h;refine⟨hl,?_⟩;rcases hr with hn | ⟨g,cap,cur,he,_,hg,Dg,P4,mw,Dh⟩
 ·exact .inl hn
 ·exact .inr ⟨g,0,cap,cur,he,⟨t,_,hg,.zero _⟩,Dg,P4,by omega,by simpa using Dh⟩
theorem gU{w:World}{t s n:Nat}{v:Value}{cs:List Value}(h:w.ic t s v n cs){k:Nat}(hk:v.ownBlock=some k):k<w.heap.size:=by
 rcases h.2 with⟨rfl,_⟩ | ⟨g,o,cap,cur,rfl,⟨_,_,hg,_⟩,_⟩
 ·simp [Value.ownBlock]at hk
 ·simp only [Value.ownBlock,aiP]at hk;subst hk;exact(aiY.1 hg).1
theorem eB(g o j:Nat):(⟨g,o,none⟩:Addr).add j=⟨g,o+j,none⟩:=by unfold Addr.add;split<;>simp_all
theorem jk{w:World}{t s n:Nat}{cs:List Value}{g o m c:Nat}(h:w.ic t s (.slice (some ⟨g,o,none⟩) m c) n cs): ∀j u,cs[j]? =some u→w.cell? ((⟨g,o,none⟩:Addr).add j)=some u:=by
 intro j u hu;rcases h.2 with⟨he,_⟩ | ⟨g',o',cap,cur,he,⟨t',fz,hgg,_⟩,_,_,_,MN⟩
 ·simp at he
 ·simp only [Value.slice.injEq,aiP,Addr.mk.injEq,and_true]at he;obtain⟨⟨rfl,rfl⟩,_⟩:=he;rw [eB,cell_of_row w g (o+j) cur t' fz hgg];rw [←MN,List.getElem?_take]at hu;split at hu
  ·rw [List.getElem?_drop]at hu;simpa using hu
  ·cases hu
def aG(md:Bool)(t s:Nat)(v:Value)(n:Nat)(cs:List Value):HP where
 wr:=md
 p w S:=(if md then w.ic t s v n cs else cs.length=n*s∧World.views w v n cs)∧∀k,S k↔v.ownBlock=some k∧(md=true∨0<n)
 fy w w' S h hk:=by
  refine⟨?_,h.2⟩;obtain⟨h0,h2⟩:=h;cases md with
  | true=>
   simp only [if_true]at h0 ⊢;obtain⟨hl,hr⟩:=h0;refine⟨hl,?_⟩;rcases hr with hn | ⟨g,o,cap,cur,rfl,⟨t',fz,hg,hz⟩,rest⟩
   ·exact .inl hn
   ·refine .inr ⟨g,o,cap,cur,rfl,⟨t',fz,?_,hz⟩,rest⟩;rw [hk g ((h2 g).2 ⟨by simp [Value.ownBlock],.inl rfl⟩)];exact hg
  | false=>
   simp only [Bool.false_eq_true,if_false]at h0 ⊢;obtain⟨hl,a,m,c,rfl,hm,Qq,kN,hc⟩:=h0;refine⟨hl,a,m,c,rfl,hm,Qq,kN,fun ad pr=>⟨(hc ad pr).1,fun j u hu=>?_⟩⟩;subst pr;have:=(hc ad rfl).2 j u hu;have hn:0<n:=by
    apply Nat.pos_of_ne_zero;rintro rfl;have mw:cs=[]:=ai6 (by simpa using hl);rw [mw]at hu;simp at hu
   have hb:=hk ad.block ((h2 ad.block).2 ⟨by simp [Value.ownBlock],.inr hn⟩);have kO:(ad.add j).block=ad.block:=by unfold Addr.add;split<;>rfl
   simpa [World.cell?,kO,hb] using this
def ew(agg:Bool)(kl:List IntKind)(ks:List Int):Value:=
 if agg then .agg ((kl.zip ks).map fun x=> .int x.1 x.2).toArray else
 match kl,ks with
 | [k],[n]=> .int k n
 | _,_=> .nilIface
def xI(agg:Bool)(cs:List Value):Value:=
 if agg then .agg cs.toArray else cs.headD .nilIface
structure W8 (es:List MapEntry) (kl:List IntKind) (ka va:Bool) (has:Nat→Bool) (row:Nat→List Value):Prop where
 keys: ∀e∈es,∃ks:List Int,ks.length=kl.length∧e.key=ew ka kl ks∧has (bG ks)=true∧e.val=xI va (row (bG ks))
 once: ∀(i j:Nat) e e',es[i]? =some e→es[j]? =some e'→e.key=e'.key→i=j
 all: ∀ks:List Int,ks.length=kl.length→has (bG ks)=true→∃e∈es,e.key=ew ka kl ks
def vn(b:Nat)(kl:List IntKind)(ka va:Bool)(zero:List Value)(has:Nat→Bool)(row:Nat→List Value):HP where
 wr:=true
 p w S:=(∀k,S k↔k=b)∧(∃es clock,w.heap[b]? =some (.map es clock)∧W8 es.toList kl ka va has row)∧
  (∀ks:List Int,ks.length=kl.length→has (bG ks)=false→row (bG ks)=zero)
 fy w w' S h hk:=by
  refine⟨h.1,?_,h.2.2⟩;obtain⟨es,clock,h1,h2⟩:=h.2.1;exact⟨es,clock,by rw [hk b ((h.1 b).2 rfl)];exact h1,h2⟩
def lI(n:Nat)(w0:World):HP where
 wr:=false
 p w S:=(∀k,S k↔k<n)∧∀k,k<n→w.heap[k]? =w0.heap[k]?
 fy _ _ _ h hk:=⟨h.1,fun k hn=>(hk k ((h.1 k).2 hn)).trans (h.2 k hn)⟩
end Go.RX
