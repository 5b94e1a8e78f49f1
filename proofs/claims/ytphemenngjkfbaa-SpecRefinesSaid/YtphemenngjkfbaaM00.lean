/- Executor. -/
import Derived.OrdersIn
import Derived.WalkKit
open Array renaming getElem?_eq_some_iff → agH
open List renaming eq_nil_of_length_eq_zero → agU, getElem?_eq_getElem → ag6, getElem?_eq_none → ag7, getElem?_eq_some_iff → agx, getElem?_set_ne → agX, pairwise_iff_getElem → ag8, range → ag5
open Nat renaming lt_of_lt_of_le → agI
open Option.some renaming injEq → agy
namespace Go.RX
inductive Ka where
 | add | sub | mul | quo | rem | oT | om | eH | RF | shl | shr | U0 | imax
 deriving DecidableEq,Repr
inductive E where
 | lit (n:Int)
 | var (i:Nat)
 | aw (i:Nat)
 | gW (a i:E)
 | bin (o:Ka) (k:IntKind) (a b:E)
 | wrap (k:IntKind) (a:E)
 | bP (a i v:E)
 | shift (a o:E)
 | Eg (a o n b:E)
 | kc (n:Nat) (a:E)
 | rT (b:Nat)
 | qw (l:List Int)
 | RG (a i:E)
 | qJ (a i s:E)
 | TJ (s:E)
 deriving DecidableEq,Repr,Inhabited
inductive BE where
 | lit (b:Bool)
 | var (i:Nat)
 | eq (a b:E)
 | lt (a b:E)
 | le (a b:E)
 | nz (a:E)
 | TL (n:Nat) (a b:E)
 | not (a:BE)
 | and (a b:BE)
 | or (a b:BE)
 | ite (c t e:BE)
 | seq (a b:E)
 deriving DecidableEq,Repr,Inhabited
structure HP where
 wr:Bool
 p:World→(Nat→Prop)→Prop
 stable: ∀w w' S,p w S→(∀k,S k→w'.heap[k]? =w.heap[k]?)→p w' S
structure V1 where
 v:Value
 one:v.oneCell'=true
def V1.nil:V1:=⟨.nilIface,rfl⟩
structure Env where
 iv:List Int:=[]
 av:List (Nat→Int):=[]
 bo:List Bool:=[]
 bv:List Nat:=[]
 vv:List V1:=[]
 va:List (Nat→V1):=[]
 pv:List HP:=[]
 lr:List Loop:=[]
def NO(o:Ka)(k:IntKind)(x y:Int):Int:=
 let a:=BitVec.ofInt k.bits x
 let b:=BitVec.ofInt k.bits y
 match o with
 | .oT=>k.wrap (a &&& b).toNat
 | .om=>k.wrap (a|||b).toNat
 | .eH=>k.wrap (a^^^b).toNat
 | _=>k.wrap (a &&& ~~~b).toNat
def aF(o:Ka)(k:IntKind)(x y:Int):Int:=
 match o with
 | .add=>x+y
 | .sub=>x - y
 | .mul=>x*y
 | .quo=>x.tdiv y
 | .rem=>x.tmod y
 | .U0=>if y<x then y else x
 | .imax=>if x<y then y else x
 | .shl=>k.wrap (x*2^(min y.toNat k.bits))
 | .shr=>x.fdiv (2^(min y.toNat k.bits))
 | o=>NO o k x y
def Ly:Int→Nat
 | .ofNat n=>2*n
 | .negSucc n=>2*n+1
def wB(acc:Nat)(z:Int):Nat:=(2*(acc*2^((Ly z).log2+1)+Ly z)+1)*2^((Ly z).log2+1)
def bG(l:List Int):Nat:=l.foldl wB 0
def eI(f:Nat→Int):List UInt8:=(ag5 (f 0).toNat).map fun j=>UInt8.ofNat (f (j+1)).toNat
def Lz(l:List UInt8):Nat→Int
 | 0=>l.length
 | j+1=>((l.getD j 0).toNat:Nat)
theorem oU(l:List UInt8):eI (Lz l)=l:=by
 apply List.ext_getElem?;intro j;simp only [eI,Lz,Int.toNat_natCast,List.getElem?_map];by_cases h:j<l.length
 ·rw [List.getElem?_range h,ag6 h];simp [List.getD,ag6 h]
 ·rw [ag7 (by simp;omega),ag7 (by omega)];rfl
theorem cS(f:Nat→Int):(eI f).length=(f 0).toNat:=by simp [eI]
def two:Nat→Nat→Nat×Nat
 | 0,k=>(0,k)
 | d+1,k=>if k%2=1 then(0,k/2)else((two d (k/2)).1+1,(two d (k/2)).2)
def nM(i j:Nat):Nat:=2^i*(2*j+1)
theorem FG: ∀(i j d:Nat),i<d→two d (nM i j)=(i,j)
 | 0,j,d+1,_=>by unfold two nM;rw [if_pos (by omega)];congr 1;omega
 | i+1,j,d+1,h=>by
  have e:nM (i+1) j=2*nM i j:=by unfold nM;rw [Nat.pow_succ,Nat.mul_comm (2^i) 2,Nat.mul_assoc]
  unfold two;rw [if_neg (by rw [e];omega),e,Nat.mul_div_cancel_left _ (by decide),FG i j d (by omega)]
def du(k:Nat):Nat×Nat:=two k k
theorem nN(i j:Nat):du (nM i j)=(i,j):=by
 apply FG;unfold nM;have h1:i<2^i:=Nat.lt_two_pow_self;have h2:2^i*1≤2^i*(2*j+1):=Nat.mul_le_mul_left _ (by omega);omega
def qx(f:Nat→Int)(i:Nat):Nat→Int:=fun j=>f (nM i j)
def FH(f:Nat→Int)(i:Nat)(s:Nat→Int):Nat→Int:=fun k=>if(du k).1=i then s (du k).2 else f k
theorem jO(f:Nat→Int)(i j:Nat)(s:Nat→Int):qx (FH f i s) j=if j=i then s else qx f j:=by
 funext k;simp only [qx,FH,nN];split<;>rfl
def LA(f:Nat→Int):Nat→Int:=fun j=>((UInt8.ofNat (f (j+1)).toNat).toNat:Nat)
def E.den(ρ:Env):E→Nat→Int
 | .lit n=>fun _=>n
 | .var i=>fun _=>ρ.iv.getD i 0
 | .aw i=>ρ.av.getD i (fun _=>0)
 | .gW a i=>fun _=>a.den ρ (i.den ρ 0).toNat
 | .bin o k a b=>fun _=>aF o k (a.den ρ 0) (b.den ρ 0)
 | .wrap k a=>fun _=>k.wrap (a.den ρ 0)
 | .bP a i v=>fun j=>if j=(i.den ρ 0).toNat then v.den ρ 0 else a.den ρ j
 | .shift a o=>fun j=>a.den ρ ((o.den ρ 0).toNat+j)
 | .Eg a o n b=>fun j=>if(o.den ρ 0).toNat≤j∧j<(o.den ρ 0).toNat+(n.den ρ 0).toNat then b.den ρ (j - (o.den ρ 0).toNat)else a.den ρ j
 | .kc n a=>fun _=>(bG ((ag5 n).map (a.den ρ)):Nat)
 | .rT b=>fun _=>(ρ.bv.getD b 0:Nat)+1
 | .qw l=>fun j=>l.getD j 0
 | .RG a i=>qx (a.den ρ) (i.den ρ 0).toNat
 | .qJ a i s=>FH (a.den ρ) (i.den ρ 0).toNat (s.den ρ)
 | .TJ s=>LA (s.den ρ)
abbrev E.i(ρ:Env)(e:E):Int:=e.den ρ 0
def BE.den(ρ:Env):BE→Bool
 | .lit b=>b
 | .var i=>ρ.bo.getD i false
 | .eq a b=>a.den ρ 0==b.den ρ 0
 | .lt a b=>decide (a.den ρ 0<b.den ρ 0)
 | .le a b=>decide (a.den ρ 0≤b.den ρ 0)
 | .nz a=> !(a.den ρ 0==0)
 | .TL n a b=>(ag5 n).all fun j=>a.den ρ j==b.den ρ j
 | .not a=> !a.den ρ
 | .and a b=>a.den ρ&&b.den ρ
 | .or a b=>a.den ρ||b.den ρ
 | .ite c t e=>if c.den ρ then t.den ρ else e.den ρ
 | .seq a b=>eI (a.den ρ)==eI (b.den ρ)
def BE.prop(ρ:Env):BE→Prop
 | .lit b=>b=true
 | .var i=>ρ.bo.getD i false=true
 | .eq a b=>a.den ρ 0=b.den ρ 0
 | .lt a b=>a.den ρ 0<b.den ρ 0
 | .le a b=>a.den ρ 0≤b.den ρ 0
 | .nz a=>a.den ρ 0≠0
 | .TL n a b=> ∀j,j<n→a.den ρ j=b.den ρ j
 | .not a=> ¬a.prop ρ
 | .and a b=>a.prop ρ∧b.prop ρ
 | .or a b=>a.prop ρ∨b.prop ρ
 | .ite c t e=>(c.prop ρ→t.prop ρ)∧(¬c.prop ρ→e.prop ρ)
 | .seq a b=>eI (a.den ρ)=eI (b.den ρ)
theorem BE.cq(ρ:Env)(b:BE):b.den ρ=true↔b.prop ρ:=by
 induction b with
 | lit b=>rfl
 | var i=>rfl
 | eq a b=>simp [BE.den,BE.prop]
 | lt a b=>simp [BE.den,BE.prop]
 | le a b=>simp [BE.den,BE.prop]
 | nz a=>simp [BE.den,BE.prop]
 | TL n a b=>simp [BE.den,BE.prop]
 | not a ih=>simp [BE.den,BE.prop,←ih]
 | and a b mV tS=>simp [BE.den,BE.prop,mV,tS]
 | or a b mV tS=>simp [BE.den,BE.prop,mV,tS]
 | ite c t e ihc Q_ Rb=>
  simp only [BE.den,BE.prop,←ihc,←Q_,←Rb];cases c.den ρ<;>simp
 | seq a b=>simp [BE.den,BE.prop]
structure Cut where
 lo:E
 hi:E
 mx:Option E
 deriving DecidableEq,Repr,Inhabited
inductive SV where
 | int (k:IntKind) (e:E)
 | bool (b:BE)
 | dR | bY | pE | uQ | iJ | undef
 | ptr (b c:Nat)
 | qy (b:Nat) (i:E) (s c:Nat)
 | pv (v:Nat) (i:E) (s c:Nat)
 | sl (b:Nat) (i:E) (s:Nat) (n m:E)
 | vv (i:Nat)
 | str (l:List UInt8)
 | fn (f:Nat) (kp:List SV)
 | agg (cs:List SV)
 | a_ (k:IntKind) (n:Nat) (a:E)
 | lp (vs:List SV)
 | opt (c:BE) (v:SV)
 | FI (a:Nat) (i:E)
 | LB (l:Nat)
 | mp (b:Nat)
 | ji (v:Nat) (cs:List Cut) (s:Nat)
 | dh (e:E)
 | lZ (s:E)
 | Ia (c:BE) (v:Nat)
 | NP (t:Nat) (k:IntKind) (e:E)
 | Ny (e:E)
 deriving Repr,Inhabited
def ak(k:IntKind)(n:Nat)(f:Nat→Int):List Value:=(ag5 n).map fun j=> .int k (f j)
def eY(v:Value)(n:Nat):Value:=
 match v with
 | .slice (some a) _ _=> .pointer (some (a.add n))
 | _=> .pointer none
def bT(s:Nat)(v:Value)(lo hi:Nat)(mx:Option Nat):Value:=
 match v with
 | .slice a _ c=> .slice (if mx.getD c=lo then a else a.map (·.add (lo*s))) (hi - lo) (mx.getD c - lo)
 | _=> .nilIface
theorem pF(s:Nat)(v:Value)(lo hi:Nat)(mx:Option Nat):(bT s v lo hi mx).oneCell'=true:=by
 unfold bT;split<;>rfl
def dx(ρ:Env)(s:Nat)(v:Value):List Cut→Value
 | []=>v
 | c::r=>dx ρ s (bT s v (c.lo.den ρ 0).toNat (c.hi.den ρ 0).toNat (c.mx.map fun m=>(m.den ρ 0).toNat)) r
theorem oo(ρ:Env)(s:Nat): ∀(cs:List Cut) (v:Value),v.oneCell'=true→(dx ρ s v cs).oneCell'=true
 | [],_,h=>h
 | _::r,_,_=>oo ρ s r _ (pF ..)
theorem oV(ρ:Env)(s:Nat): ∀(a b:List Cut) (v:Value),dx ρ s v (a++b)=dx ρ s (dx ρ s v a) b
 | [],_,_=>rfl
 | _::r,b,_=>oV ρ s r b _
def aD(z:Int):Value:=if z=0 then .pointer none else .pointer (some ⟨(z - 1).toNat,0,none⟩)
theorem fK(b:Nat):aD ((b:Nat)+1)= .pointer (some ⟨b,0,none⟩):=by
 unfold aD;rw [if_neg (by omega),show((b:Int)+1 - 1).toNat=b by omega]
theorem FJ(z:Int):(aD z).oneCell'=true:=by unfold aD;split<;>rfl
def Xh(q:Nat):Value:=if(du q).1=0 then .slice none (du (du q).2).1 (du (du q).2).2 else
 .slice (some ⟨(du q).1 - 1,(du (du q).2).1,some (du (du (du q).2).2).1⟩) (du (du (du (du q).2).2).2).1 (du (du (du (du q).2).2).2).2
def iR(z:Int):Value:=if z=0 then .slice none 0 0 else if z<0 then Xh (-z).toNat else
 .slice (some ⟨(du z.toNat).1,(du (du z.toNat).2).1,none⟩) (du (du (du z.toNat).2).2).1 (du (du (du z.toNat).2).2).2
def U1(b o n c:Nat):Int:=(nM b (nM o (nM n c)):Nat)
theorem LD(i j:Nat):0<nM i j:=Nat.mul_pos (Nat.two_pow_pos i) (by omega)
theorem FK:iR 0= .slice none 0 0:=rfl
theorem LF(b o n c:Nat):iR (U1 b o n c)= .slice (some ⟨b,o,none⟩) n c:=by
 have:=LD b (nM o (nM n c));unfold iR U1;rw [if_neg (by omega),if_neg (by omega),Int.toNat_natCast,nN,nN,nN]
theorem uR(z:Int):(iR z).oneCell'=true:=by
 unfold iR;split
 ·rfl
 ·split
  ·unfold Xh;split<;>rfl
  ·rfl
def uS(x:Value):Value:=
 match x with
 | .iface t v=> .iface t v
 | x=> .iface 0 x
mutual
def SV.val(ρ:Env):SV→Value
 | .int k e=> .int k (e.den ρ 0)
 | .bool b=> .bool (b.den ρ)
 | .dR=> .pointer none
 | .bY=> .slice none 0 0
 | .pE=> .nilFunc
 | .uQ=> .nilIface
 | .iJ=> .map none
 | .undef=>Go.undef
 | .ptr b c=> .pointer (some ⟨ρ.bv.getD b 0,c,none⟩)
 | .qy b i s c=> .pointer (some ⟨ρ.bv.getD b 0,(i.den ρ 0).toNat*s+c,none⟩)
 | .pv v i s c=>eY (ρ.vv.getD v V1.nil).v ((i.den ρ 0).toNat*s+c)
 | .sl b i s n m=> .slice (some ⟨ρ.bv.getD b 0,(i.den ρ 0).toNat*s,none⟩) (n.den ρ 0).toNat (m.den ρ 0).toNat
 | .vv i=>(ρ.vv.getD i V1.nil).v
 | .str l=> .string ⟨l.toArray⟩
 | .fn f kp=> .func (.func f) #[] (SV.bQ ρ kp).toArray
 | .agg cs=> .agg (SV.ar ρ cs).toArray
 | .a_ k n a=> .agg (ak k n (a.den ρ)).toArray
 | .lp vs=> .tuple (SV.bQ ρ vs).toArray
 | .opt c v=>if c.den ρ then v.val ρ else Go.undef
 | .FI a i=>((ρ.va.getD a fun _=>V1.nil) (i.den ρ 0).toNat).v
 | .LB l=> .func (.yield (ρ.bv.getD l 0)) #[] #[]
 | .mp b=> .map (some (ρ.bv.getD b 0))
 | .ji v cs s=>dx ρ s (ρ.vv.getD v V1.nil).v cs
 | .dh e=>aD (e.den ρ 0)
 | .lZ s=> .string ⟨(eI (s.den ρ)).toArray⟩
 | .Ia c v=>if c.den ρ then uS (ρ.vv.getD v V1.nil).v else .nilIface
 | .NP t k e=> .iface t (.int k (e.den ρ 0))
 | .Ny e=>iR (e.den ρ 0)
def SV.bQ(ρ:Env):List SV→List Value
 | []=>[]
 | v::r=>v.val ρ::SV.bQ ρ r
def SV.ar(ρ:Env):List SV→List Value
 | []=>[]
 | v::r=>SV.cells ρ v++SV.ar ρ r
def SV.cells(ρ:Env):SV→List Value
 | .agg cs=>SV.ar ρ cs
 | .a_ k n a=>ak k n (a.den ρ)
 | .int k e=>[.int k (e.den ρ 0)]
 | .bool b=>[.bool (b.den ρ)]
 | .dR=>[.pointer none]
 | .bY=>[.slice none 0 0]
 | .pE=>[.nilFunc]
 | .uQ=>[.nilIface]
 | .iJ=>[.map none]
 | .undef=>[Go.undef]
 | .ptr b c=>[.pointer (some ⟨ρ.bv.getD b 0,c,none⟩)]
 | .qy b i s c=>[.pointer (some ⟨ρ.bv.getD b 0,(i.den ρ 0).toNat*s+c,none⟩)]
 | .pv v i s c=>[eY (ρ.vv.getD v V1.nil).v ((i.den ρ 0).toNat*s+c)]
 | .sl b i s n m=>[.slice (some ⟨ρ.bv.getD b 0,(i.den ρ 0).toNat*s,none⟩) (n.den ρ 0).toNat (m.den ρ 0).toNat]
 | .vv i=>[(ρ.vv.getD i V1.nil).v]
 | .str l=>[.string ⟨l.toArray⟩]
 | .fn f kp=>[.func (.func f) #[] (SV.bQ ρ kp).toArray]
 | .lp vs=>[.tuple (SV.bQ ρ vs).toArray]
 | .opt c v=>[if c.den ρ then v.val ρ else Go.undef]
 | .FI a i=>[((ρ.va.getD a fun _=>V1.nil) (i.den ρ 0).toNat).v]
 | .LB l=>[.func (.yield (ρ.bv.getD l 0)) #[] #[]]
 | .mp b=>[.map (some (ρ.bv.getD b 0))]
 | .ji v cs s=>[dx ρ s (ρ.vv.getD v V1.nil).v cs]
 | .dh e=>[aD (e.den ρ 0)]
 | .lZ s=>[.string ⟨(eI (s.den ρ)).toArray⟩]
 | .Ia c v=>[if c.den ρ then uS (ρ.vv.getD v V1.nil).v else .nilIface]
 | .NP t k e=>[.iface t (.int k (e.den ρ 0))]
 | .Ny e=>[iR (e.den ρ 0)]
end
structure gu (w w':World):Prop where
 os:w'.os=w.os
 tape:w'.tape=w.tape
 output:w'.output=w.output
 size:w.heap.size≤w'.heap.size
theorem gu.refl(w:World):gu w w:=⟨rfl,rfl,rfl,Nat.le_refl _⟩
theorem gu.trans{a b c:World}(h:gu a b)(k:gu b c):gu a c:=
 ⟨k.os.trans h.os,k.tape.trans h.tape,k.output.trans h.output,Nat.le_trans h.size k.size⟩
structure Sep (hs:List HP) (S:Nat→Nat→Prop) (w:World):Prop where
 at_: ∀i h,hs[i]? =some h→h.p w (S i)∧∀k,S i k→k<w.heap.size
 apart: ∀i j hi hj,i≠j→hs[i]? =some hi→hs[j]? =some hj→(hi.wr=true∨hj.wr=true)→∀k,S i k→¬S j k
def aU(hs:List HP)(w:World):Prop:= ∃S,Sep hs S w
def HP.emp:HP:=⟨false,fun _ S=> ∀k,¬S k,fun _ _ _ h _=>h⟩
theorem aU.pick{hs:List HP}{w:World}(h:aU hs w)(idx:List Nat)(ey:List HP)(gE:idx.Nodup)
  (he: ∀j:Nat,ey[j]? =(idx[j]?).bind (fun i=>hs[i]?)):aU ey w:=by
 obtain⟨S,hS⟩:=h;refine⟨fun j=>S (idx.getD j 0),⟨?_,?_⟩⟩
 ·intro j x hx;rw [he]at hx;cases hj:idx[j]? with
  | none=>simp [hj]at hx
  | some i=>
   simp only [hj,Option.bind_some]at hx;have:idx.getD j 0=i:=by simp [List.getD,hj]
   rw [this];exact hS.at_ i x hx
 ·intro i j hi hj eJ Zz ZA hw k;rw [he]at Zz ZA;cases oq:idx[i]? with
  | none=>simp [oq]at Zz
  | some ii=>
   cases lW:idx[j]? with
   | none=>simp [lW]at ZA
   | some jj=>
    simp only [oq,lW,Option.bind_some]at Zz ZA;have e1:idx.getD i 0=ii:=by simp [List.getD,oq]
    have e2:idx.getD j 0=jj:=by simp [List.getD,lW]
    rw [e1,e2];refine hS.apart ii jj hi hj ?_ Zz ZA hw k;intro e;subst e;rw [agx]at oq lW;obtain⟨a1,b1⟩:=oq;obtain⟨a2,b2⟩:=lW;have hpw:=ag8.1 gE;rcases Nat.lt_or_gt_of_ne eJ with h | h
    ·exact hpw i j a1 a2 h (b1.trans b2.symm)
    ·exact hpw j i a2 a1 h (b2.trans b1.symm)
theorem Sep.step{hs:List HP}{S:Nat→Nat→Prop}{w w':World}(h:Sep hs S w)(i:Nat)(h0 h':HP)(hi:hs[i]? =some h0)(hw:h0.wr=true)
  (S':Nat→Prop) (jP:w.heap.size≤w'.heap.size) (uT: ∀k,k<w.heap.size→¬S i k→w'.heap[k]? =w.heap[k]?)
  (hp:h'.p w' S') (eu: ∀k,S' k→S i k∨(w.heap.size≤k∧k<w'.heap.size)):
  Sep (hs.set i h') (fun j=>if j=i then S' else S j) w':=by
 have cZ:i<hs.length:=(agx.1 hi).1;refine⟨?_,?_⟩
 ·intro j x hx;by_cases hj:j=i
  ·subst hj;rw [List.getElem?_set_self cZ]at hx;cases hx;simp only [if_true];refine⟨hp,fun k hk=>?_⟩;rcases eu k hk with h1 | h1
   ·exact agI ((h.at_ _ _ hi).2 k h1) jP
   ·exact h1.2
  ·rw [agX (Ne.symm hj)]at hx;simp only [hj,if_false];obtain⟨hpx,hb⟩:=h.at_ j x hx;refine⟨x.stable w w' _ hpx fun k hk=>uT k (hb k hk) ?_,fun k hk=>agI (hb k hk) jP⟩;exact fun ZB=>h.apart i j h0 x (Ne.symm hj) hi hx (.inl hw) k ZB hk
 ·intro a b ha hb eJ Rd Rf y_ k;by_cases RH:a=i
  ·subst RH;have hbi:b≠a:=Ne.symm eJ;rw [agX eJ]at Rf;simp only [if_true,hbi,if_false];intro hk Nz;rcases eu k hk with h1 | h1
   ·exact h.apart a b h0 hb eJ hi Rf (.inl hw) k h1 Nz
   ·exact absurd ((h.at_ b hb Rf).2 k Nz) (by omega)
  ·rw [agX (Ne.symm RH)]at Rd;by_cases U2:b=i
   ·subst U2;simp only [if_true,RH,if_false];intro hk Nz;rcases eu k Nz with h1 | h1
    ·exact h.apart a b ha h0 eJ Rd hi (.inr hw) k hk h1
    ·exact absurd ((h.at_ a ha Rd).2 k hk) (by omega)
   ·rw [agX (Ne.symm U2)]at Rf;simp only [RH,U2,if_false];exact h.apart a b ha hb eJ Rd Rf y_ k
theorem Sep.keep{hs:List HP}{S:Nat→Nat→Prop}{w w':World}(h:Sep hs S w)(jP:w.heap.size≤w'.heap.size)
  (uT: ∀k,k<w.heap.size→w'.heap[k]? =w.heap[k]?):Sep hs S w':=by
 refine⟨fun i x hx=>?_,h.apart⟩;obtain⟨hp,hb⟩:=h.at_ i x hx;exact⟨x.stable w w' _ hp fun k hk=>uT k (hb k hk),fun k hk=>agI (hb k hk) jP⟩
theorem Sep.new{hs:List HP}{S:Nat→Nat→Prop}{w w':World}(h:Sep hs S w)(i:Nat)(h':HP)(hi:hs[i]? =some HP.emp)
  (S':Nat→Prop) (jP:w.heap.size≤w'.heap.size) (uT: ∀k,k<w.heap.size→w'.heap[k]? =w.heap[k]?)
  (hp:h'.p w' S') (eu: ∀k,S' k→w.heap.size≤k∧k<w'.heap.size):
  Sep (hs.set i h') (fun j=>if j=i then S' else S j) w':=by
 have cZ:i<hs.length:=(agx.1 hi).1;refine⟨?_,?_⟩
 ·intro j x hx;by_cases hj:j=i
  ·subst hj;rw [List.getElem?_set_self cZ]at hx;cases hx;simp only [if_true];exact⟨hp,fun k hk=>(eu k hk).2⟩
  ·rw [agX (Ne.symm hj)]at hx;simp only [hj,if_false];obtain⟨hpx,hb⟩:=h.at_ j x hx;exact⟨x.stable w w' _ hpx fun k hk=>uT k (hb k hk),fun k hk=>agI (hb k hk) jP⟩
 ·intro a b ha hb eJ Rd Rf y_ k;by_cases RH:a=i
  ·subst RH;have hbi:b≠a:=Ne.symm eJ;rw [agX eJ]at Rf;simp only [if_true,hbi,if_false];intro hk Nz;have:=(h.at_ b hb Rf).2 k Nz;have:=eu k hk;omega
  ·rw [agX (Ne.symm RH)]at Rd;by_cases U2:b=i
   ·subst U2;simp only [if_true,RH,if_false];intro hk Nz;have:=(h.at_ a ha Rd).2 k hk;have:=eu k Nz;omega
   ·rw [agX (Ne.symm U2)]at Rf;simp only [RH,U2,if_false];exact h.apart a b ha hb eJ Rd Rf y_ k
def ao(b:Nat)(wr:Bool)(cs:List Value):HP where
 wr:=wr
 p w S:=(∀k,S k↔k=b)∧∃ty fz,w.heap[b]? =some (.cells cs.toArray ty fz)∧(wr=true→fz=(0,0))
 stable w w' S h hk:=by
  obtain⟨h1,ty,fz,h2,h3⟩:=h;exact⟨h1,ty,fz,(hk b ((h1 b).2 rfl)).trans h2,h3⟩
def TM(b:Nat)(l:List UInt8)(pos:Nat):HP where
 wr:=true
 p w S:=(∀k,S k↔k=b)∧w.heap[b]? =some (.stringIter ⟨l.toArray⟩ pos)
 stable _ _ _ h hk:=⟨h.1,(hk b ((h.1 b).2 rfl)).trans h.2⟩
def TN(b t e:Nat)(bs:List Value):HP where
 wr:=true
 p w S:= ∃pv v,w.heap[b]? =some (.cells #[pv,v] t (0,0))∧(pv= .pointer none∨pv= .pointer (some ⟨b,0,none⟩))∧w.ownsRow 0 e 1 v bs.length bs∧
  v.ownBlock≠some b∧∀k,S k↔k=b∨v.ownBlock=some k
 stable w w' S h hk:=by
  obtain⟨pv,v,h1,h2,h3,h4,h5⟩:=h;refine⟨pv,v,(hk b ((h5 b).2 (.inl rfl))).trans h1,h2,⟨h3.1,?_⟩,h4,h5⟩;rcases h3.2 with hn | ⟨g,cap,cur,rfl,hB,hg,r⟩
  ·exact .inl hn
  ·exact .inr ⟨g,cap,cur,rfl,hB,(hk g ((h5 g).2 (.inr rfl))).trans hg,r⟩
def lC(l:Nat)(r:Loop):HP where
 wr:=true
 p w S:=(∀k,S k↔k=l)∧w.heap[l]? =some (.loop r)
 stable w w' S h hk:=⟨h.1,by rw [hk l ((h.1 l).2 rfl)];exact h.2⟩
def zN(b:Nat):HP where
 wr:=true
 p w S:=(∀k,S k↔k=b)∧w.heap[b]? =some (.deferred (some []))
 stable w w' S h hk:=⟨h.1,by rw [hk b ((h.1 b).2 rfl)];exact h.2⟩
def l5(l:List Nat):HP where
 wr:=true
 p w S:=(∀k,S k↔k∈l)∧l.Nodup∧∀b,b∈l→w.heap[b]? =some (.deferred (some []))
 stable w w' S h hk:=⟨h.1,h.2.1,fun b hb=>by rw [hk b ((h.1 b).2 hb)];exact h.2.2 b hb⟩
def pG:List Nat→Nat
 | []=>0
 | x::r=>2^x*(2*pG r+1)
theorem NQ: ∀{l m:List Nat},pG l=pG m→l=m:=by
 have pos: ∀(x:Nat) (r:List Nat),0<pG (x::r):=fun x r=>Nat.mul_pos (Nat.pow_pos (by decide)) (by omega)
 have key: ∀(x y a b:Nat),2^x*(2*a+1)=2^y*(2*b+1)→x=y∧a=b:=by
  intro x
  induction x with
  | zero=>
   intro y a b h;cases y with
   | zero=>simp at h;exact⟨rfl,by omega⟩
   | succ y=>rw [Nat.pow_succ,Nat.mul_right_comm]at h;omega
  | succ x ih=>
   intro y a b h;cases y with
   | zero=>rw [Nat.pow_succ,Nat.mul_right_comm]at h;omega
   | succ y=>
    rw [Nat.pow_succ,Nat.pow_succ,Nat.mul_right_comm,Nat.mul_right_comm _ 2]at h;obtain⟨h1,h2⟩:=ih y a b (by omega);exact⟨by omega,h2⟩
 intro l
 induction l with
 | nil=>
  intro m h;cases m with
  | nil=>rfl
  | cons y s=>have:=pos y s;rw [←h]at this;simp [pG]at this
 | cons x r ih=>
  intro m h;cases m with
  | nil=>have:=pos x r;rw [h]at this;simp [pG]at this
  | cons y s=>
   obtain⟨rfl,h2⟩:=key _ _ _ _ h;rw [ih h2]
open Classical in
noncomputable def qK(n:Nat):List Nat:=if h: ∃l,pG l=n then h.choose else []
theorem pH(l:List Nat):qK (pG l)=l:=by
 have h: ∃m,pG m=pG l:=⟨l,rfl⟩;unfold qK;rw [dif_pos h];exact NQ h.choose_spec
def World.views(w:World)(v:Value)(n:Nat)(cs:List Value):Prop:=
 ∃a m c,v= .slice a m c∧m=n∧m≤c∧(a=none→n=0)∧
  ∀ad,a=some ad→(0<n→ad.spot=none)∧∀(j:Nat) u,cs[j]? =some u→w.cell? (ad.add j)=some u
def sW(n:Nat)(fz:Nat×Nat):Prop:=fz.2≤fz.1∨n≤fz.1
theorem sW.zero(n:Nat):sW n (0,0):= .inl (Nat.le_refl _)
theorem sW.off{n:Nat}{fz:Nat×Nat}(h:sW n fz){i:Nat}(hi:i<n):(decide (fz.1≤i)&&decide (i<fz.2))=false:=by
 unfold sW at h;simp;omega
def _root_.Go.World.iK(w:World)(_ s:Nat)(v:Value)(n:Nat)(cs:List Value):Prop:=
 cs.length=n*s∧((v= .slice none 0 0∧n=0)∨
  ∃g o cap cur,v= .slice (some ⟨g,o,none⟩) n cap∧(∃t' fz,w.heap[g]? =some (.cells cur t' fz)∧sW cur.size fz)∧n≤cap∧cap≤maxLen∧(0<cap→o+cap*s≤cur.size)∧(cur.toList.drop o).take (n*s)=cs)
theorem kO(w:World)(t s:Nat):w.iK t s (.slice none 0 0) 0 []:=⟨by simp,.inl ⟨rfl,rfl⟩⟩
theorem LG{w:World}{t s n:Nat}{v:Value}{cs:List Value}(h:w.ownsRow 0 t s v n cs):w.iK t s v n cs:=by
 obtain⟨hl,hr⟩:=h;refine⟨hl,?_⟩;rcases hr with hn | ⟨g,cap,cur,he,_,hg,FL,RI,l6,B0⟩
 ·exact .inl hn
 ·exact .inr ⟨g,0,cap,cur,he,⟨t,_,hg,.zero _⟩,FL,RI,by omega,by simpa using B0⟩
theorem iu{w:World}{t s n:Nat}{v:Value}{cs:List Value}(h:w.iK t s v n cs){k:Nat}(hk:v.ownBlock=some k):k<w.heap.size:=by
 rcases h.2 with⟨rfl,_⟩ | ⟨g,o,cap,cur,rfl,⟨_,_,hg,_⟩,_⟩
 ·simp [Value.ownBlock]at hk
 ·simp only [Value.ownBlock,agy]at hk;subst hk;exact(agH.1 hg).1
theorem eZ(g o j:Nat):(⟨g,o,none⟩:Addr).add j=⟨g,o+j,none⟩:=by unfold Addr.add;split<;>simp_all
theorem jQ{w:World}{t s n:Nat}{cs:List Value}{g o m c:Nat}(h:w.iK t s (.slice (some ⟨g,o,none⟩) m c) n cs): ∀j u,cs[j]? =some u→w.cell? ((⟨g,o,none⟩:Addr).add j)=some u:=by
 intro j u hu;rcases h.2 with⟨he,_⟩ | ⟨g',o',cap,cur,he,⟨t',fz,hgg,_⟩,_,_,_,NR⟩
 ·simp at he
 ·simp only [Value.slice.injEq,agy,Addr.mk.injEq,and_true]at he;obtain⟨⟨rfl,rfl⟩,_⟩:=he;rw [eZ,cell_of_row w g (o+j) cur t' fz hgg];rw [←NR,List.getElem?_take]at hu;split at hu
  ·rw [List.getElem?_drop]at hu;simpa using hu
  ·cases hu
def aC(md:Bool)(t s:Nat)(v:Value)(n:Nat)(cs:List Value):HP where
 wr:=md
 p w S:=(if md then w.iK t s v n cs else cs.length=n*s∧World.views w v n cs)∧∀k,S k↔v.ownBlock=some k∧(md=true∨0<n)
 stable w w' S h hk:=by
  refine⟨?_,h.2⟩;obtain⟨h0,h2⟩:=h;cases md with
  | true=>
   simp only [if_true]at h0 ⊢;obtain⟨hl,hr⟩:=h0;refine⟨hl,?_⟩;rcases hr with hn | ⟨g,o,cap,cur,rfl,⟨t',fz,hg,hz⟩,rest⟩
   ·exact .inl hn
   ·refine .inr ⟨g,o,cap,cur,rfl,⟨t',fz,?_,hz⟩,rest⟩;rw [hk g ((h2 g).2 ⟨by simp [Value.ownBlock],.inl rfl⟩)];exact hg
  | false=>
   simp only [Bool.false_eq_true,if_false]at h0 ⊢;obtain⟨hl,a,m,c,rfl,hm,TO,l7,hc⟩:=h0;refine⟨hl,a,m,c,rfl,hm,TO,l7,fun ad had=>⟨(hc ad had).1,fun j u hu=>?_⟩⟩;subst had;have:=(hc ad rfl).2 j u hu;have hn:0<n:=by
    apply Nat.pos_of_ne_zero;rintro rfl;have l6:cs=[]:=agU (by simpa using hl);rw [l6]at hu;simp at hu
   have hb:=hk ad.block ((h2 ad.block).2 ⟨by simp [Value.ownBlock],.inr hn⟩);have kP:(ad.add j).block=ad.block:=by unfold Addr.add;split<;>rfl
   simpa [World.cell?,kP,hb] using this
def eW(agg:Bool)(kl:List IntKind)(ks:List Int):Value:=
 if agg then .agg ((kl.zip ks).map fun x=> .int x.1 x.2).toArray else
 match kl,ks with
 | [k],[n]=> .int k n
 | _,_=> .nilIface
def zO(agg:Bool)(cs:List Value):Value:=
 if agg then .agg cs.toArray else cs.headD .nilIface
structure Xi (es:List MapEntry) (kl:List IntKind) (ka va:Bool) (has:Nat→Bool) (row:Nat→List Value):Prop where
 keys: ∀e∈es,∃ks:List Int,ks.length=kl.length∧e.key=eW ka kl ks∧has (bG ks)=true∧e.val=zO va (row (bG ks))
 once: ∀(i j:Nat) e e',es[i]? =some e→es[j]? =some e'→e.key=e'.key→i=j
 all: ∀ks:List Int,ks.length=kl.length→has (bG ks)=true→∃e∈es,e.key=eW ka kl ks
def bK(b:Nat)(kl:List IntKind)(ka va:Bool)(zero:List Value)(has:Nat→Bool)(row:Nat→List Value):HP where
 wr:=true
 p w S:=(∀k,S k↔k=b)∧(∃es clock,w.heap[b]? =some (.map es clock)∧Xi es.toList kl ka va has row)∧
  (∀ks:List Int,ks.length=kl.length→has (bG ks)=false→row (bG ks)=zero)
 stable w w' S h hk:=by
  refine⟨h.1,?_,h.2.2⟩;obtain⟨es,clock,h1,h2⟩:=h.2.1;exact⟨es,clock,by rw [hk b ((h.1 b).2 rfl)];exact h1,h2⟩
def Eh(n:Nat)(w0:World):HP where
 wr:=false
 p w S:=(∀k,S k↔k<n)∧∀k,k<n→w.heap[k]? =w0.heap[k]?
 stable _ _ _ h hk:=⟨h.1,fun k hn=>(hk k ((h.1 k).2 hn)).trans (h.2 k hn)⟩
end Go.RX
