/- Executor. -/
import Derived.OrdersIn
import Derived.WalkKit
open Array renaming getElem?_eq_some_iff → auy
open Int renaming toNat_natCast → auD
open List renaming eq_nil_of_length_eq_zero → auH, getElem?_eq_getElem → auU, getElem?_eq_none → au0, getElem?_eq_some_iff → aup, getElem?_set_ne → auV
open Nat renaming lt_of_lt_of_le → auB
open Option.some renaming injEq → auq
namespace Go.RX
inductive IOp where
 | add | sub | mul | quo | rem | gp | cK | cz | Um | shl | shr | iO | imax
 deriving DecidableEq,Repr
inductive E where
 | lit (n:Int)
 | var (i:Nat)
 | cU (i:Nat)
 | TN (a i:E)
 | bin (o:IOp) (k:IntKind) (a b:E)
 | wrap (k:IntKind) (a:E)
 | nm (a i v:E)
 | shift (a o:E)
 | jI (a o n b:E)
 | kc (n:Nat) (a:E)
 | tS (b:Nat)
 | qV (l:List Int)
 | Un (a i:E)
 | ry (a i s:E)
 | Xu (s:E)
 deriving DecidableEq,Repr,Inhabited
inductive BE where
 | lit (b:Bool)
 | var (i:Nat)
 | eq (a b:E)
 | lt (a b:E)
 | le (a b:E)
 | nz (a:E)
 | Xv (n:Nat) (a b:E)
 | not (a:BE)
 | and (a b:BE)
 | or (a b:BE)
 | ite (c t e:BE)
 | seq (a b:E)
 | DA (i:Nat)
 deriving DecidableEq,Repr,Inhabited
structure HP where
 wr:Bool
 p:World→(Nat→Prop)→Prop
 fh: ∀w w' S,p w S→(∀k,S k→w'.heap[k]? =w.heap[k]?)→p w' S
structure V1 where
 v:Value
 one:v.oneCell'=true
def V1.nil:V1:=⟨.nilIface,rfl⟩
structure Env where
 iv:List Int:=[]
 av:List (Nat→Int):=[]
 bo:List Bool:=[]
 bv:List Nat:=[]
 vv:List V1:=[]
 va:List (Nat→V1):=[]
 pv:List HP:=[]
 lr:List Loop:=[]
def PE(o:IOp)(k:IntKind)(x y:Int):Int:=
 let a:=BitVec.ofInt k.bits x
 let b:=BitVec.ofInt k.bits y
 match o with
 | .gp=>k.wrap (a &&& b).toNat
 | .cK=>k.wrap (a|||b).toNat
 | .cz=>k.wrap (a^^^b).toNat
 | _=>k.wrap (a &&& ~~~b).toNat
def ar(o:IOp)(k:IntKind)(x y:Int):Int:=
 match o with
 | .add=>x+y
 | .sub=>x - y
 | .mul=>x*y
 | .quo=>x.tdiv y
 | .rem=>x.tmod y
 | .iO=>if y<x then y else x
 | .imax=>if x<y then y else x
 | .shl=>k.wrap (x*2^(min y.toNat k.bits))
 | .shr=>x.fdiv (2^(min y.toNat k.bits))
 | o=>PE o k x y
def Mh:Int→Nat
 | .ofNat n=>2*n
 | .negSucc n=>2*n+1
def tT(acc:Nat)(z:Int):Nat:=(2*(acc*2^((Mh z).log2+1)+Mh z)+1)*2^((Mh z).log2+1)
def aW(l:List Int):Nat:=l.foldl tT 0
def dC(f:Nat→Int):List UInt8:=(List.range (f 0).toNat).map fun j=>UInt8.ofNat (f (j+1)).toNat
def Mi(l:List UInt8):Nat→Int
 | 0=>l.length
 | j+1=>((l.getD j 0).toNat:Nat)
theorem pc(l:List UInt8):dC (Mi l)=l:=by
 apply List.ext_getElem?;intro j;simp only [dC,Mi,auD,List.getElem?_map];by_cases h:j<l.length
 ·rw [List.getElem?_range h,auU h];simp [List.getD,auU h]
 ·rw [au0 (by simp;omega),au0 (by omega)];rfl
theorem dq(f:Nat→Int):(dC f).length=(f 0).toNat:=by simp [dC]
def two:Nat→Nat→Nat×Nat
 | 0,k=>(0,k)
 | d+1,k=>if k%2=1 then(0,k/2)else((two d (k/2)).1+1,(two d (k/2)).2)
def kj(i j:Nat):Nat:=2^i*(2*j+1)
theorem FH: ∀(i j d:Nat),i<d→two d (kj i j)=(i,j)
 | 0,j,d+1,_=>by unfold two kj;rw [if_pos (by omega)];congr 1;omega
 | i+1,j,d+1,h=>by
  have e:kj (i+1) j=2*kj i j:=by unfold kj;rw [Nat.pow_succ,Nat.mul_comm (2^i) 2,Nat.mul_assoc]
  unfold two;rw [if_neg (by rw [e];omega),e,Nat.mul_div_cancel_left _ (by decide),FH i j d (by omega)]
def dO(k:Nat):Nat×Nat:=two k k
theorem fq(i j:Nat):dO (kj i j)=(i,j):=by
 apply FH;unfold kj;have h1:i<2^i:=Nat.lt_two_pow_self;have h2:2^i*1≤2^i*(2*j+1):=Nat.mul_le_mul_left _ (by omega);omega
def qW(f:Nat→Int)(i:Nat):Nat→Int:=fun j=>f (kj i j)
def FI(f:Nat→Int)(i:Nat)(s:Nat→Int):Nat→Int:=fun k=>if(dO k).1=i then s (dO k).2 else f k
theorem kF(f:Nat→Int)(i j:Nat)(s:Nat→Int):qW (FI f i s) j=if j=i then s else qW f j:=by
 funext k;simp only [qW,FI,fq];split<;>rfl
def Mj(f:Nat→Int):Nat→Int:=fun j=>((UInt8.ofNat (f (j+1)).toNat).toNat:Nat)
def E.den(ρ:Env):E→Nat→Int
 | .lit n=>fun _=>n
 | .var i=>fun _=>ρ.iv.getD i 0
 | .cU i=>ρ.av.getD i (fun _=>0)
 | .TN a i=>fun _=>a.den ρ (i.den ρ 0).toNat
 | .bin o k a b=>fun _=>ar o k (a.den ρ 0) (b.den ρ 0)
 | .wrap k a=>fun _=>k.wrap (a.den ρ 0)
 | .nm a i v=>fun j=>if j=(i.den ρ 0).toNat then v.den ρ 0 else a.den ρ j
 | .shift a o=>fun j=>a.den ρ ((o.den ρ 0).toNat+j)
 | .jI a o n b=>fun j=>if(o.den ρ 0).toNat≤j∧j<(o.den ρ 0).toNat+(n.den ρ 0).toNat then b.den ρ (j - (o.den ρ 0).toNat)else a.den ρ j
 | .kc n a=>fun _=>(aW ((List.range n).map (a.den ρ)):Nat)
 | .tS b=>fun _=>(ρ.bv.getD b 0:Nat)+1
 | .qV l=>fun j=>l.getD j 0
 | .Un a i=>qW (a.den ρ) (i.den ρ 0).toNat
 | .ry a i s=>FI (a.den ρ) (i.den ρ 0).toNat (s.den ρ)
 | .Xu s=>Mj (s.den ρ)
abbrev E.i(ρ:Env)(e:E):Int:=e.den ρ 0
def zP(v:Value)(k n:Nat):Value:=
 match v with
 | .slice (some a) _ _=> .slice (some (a.add k)) n n
 | _=> .slice none 0 0
def xQ:Value→Bool
 | .slice none _ _=>true
 | _=>false
def BE.den(ρ:Env):BE→Bool
 | .lit b=>b
 | .var i=>ρ.bo.getD i false
 | .eq a b=>a.den ρ 0==b.den ρ 0
 | .lt a b=>decide (a.den ρ 0<b.den ρ 0)
 | .le a b=>decide (a.den ρ 0≤b.den ρ 0)
 | .nz a=> !(a.den ρ 0==0)
 | .Xv n a b=>(List.range n).all fun j=>a.den ρ j==b.den ρ j
 | .not a=> !a.den ρ
 | .and a b=>a.den ρ&&b.den ρ
 | .or a b=>a.den ρ||b.den ρ
 | .ite c t e=>if c.den ρ then t.den ρ else e.den ρ
 | .seq a b=>dC (a.den ρ)==dC (b.den ρ)
 | .DA i=>xQ (ρ.vv.getD i V1.nil).v
def BE.prop(ρ:Env):BE→Prop
 | .lit b=>b=true
 | .var i=>ρ.bo.getD i false=true
 | .eq a b=>a.den ρ 0=b.den ρ 0
 | .lt a b=>a.den ρ 0<b.den ρ 0
 | .le a b=>a.den ρ 0≤b.den ρ 0
 | .nz a=>a.den ρ 0≠0
 | .Xv n a b=> ∀j,j<n→a.den ρ j=b.den ρ j
 | .not a=> ¬a.prop ρ
 | .and a b=>a.prop ρ∧b.prop ρ
 | .or a b=>a.prop ρ∨b.prop ρ
 | .ite c t e=>(c.prop ρ→t.prop ρ)∧(¬c.prop ρ→e.prop ρ)
 | .seq a b=>dC (a.den ρ)=dC (b.den ρ)
 | .DA i=>xQ (ρ.vv.getD i V1.nil).v=true
theorem BE.bQ(ρ:Env)(b:BE):b.den ρ=true↔b.prop ρ:=by
 induction b with
 | lit b=>rfl
 | var i=>rfl
 | eq a b=>simp [BE.den,BE.prop]
 | lt a b=>simp [BE.den,BE.prop]
 | le a b=>simp [BE.den,BE.prop]
 | nz a=>simp [BE.den,BE.prop]
 | Xv n a b=>simp [BE.den,BE.prop]
 | not a ih=>simp [BE.den,BE.prop,←ih]
 | and a b mr rz=>simp [BE.den,BE.prop,mr,rz]
 | or a b mr rz=>simp [BE.den,BE.prop,mr,rz]
 | ite c t e ihc H9 H_=>
  simp only [BE.den,BE.prop,←ihc,←H9,←H_];cases c.den ρ<;>simp
 | seq a b=>simp [BE.den,BE.prop]
 | DA i=>rfl
structure Cut where
 lo:E
 hi:E
 mx:Option E
 deriving DecidableEq,Repr,Inhabited
inductive SV where
 | int (k:IntKind) (e:E)
 | bool (b:BE)
 | cu | bx | kD | pf | nT | undef
 | ptr (b c:Nat)
 | qX (b:Nat) (i:E) (s c:Nat)
 | pv (v:Nat) (i:E) (s c:Nat)
 | sl (b:Nat) (i:E) (s:Nat) (n m:E)
 | vv (i:Nat)
 | str (l:List UInt8)
 | fn (f:Nat) (jq:List SV)
 | fm (f:Nat) (first:List SV)
 | agg (cs:List SV)
 | dg (k:IntKind) (n:Nat) (a:E)
 | oL (vs:List SV)
 | opt (c:BE) (v:SV)
 | FJ (a:Nat) (i:E)
 | Mk (l:Nat)
 | mp (b:Nat)
 | jJ (v:Nat) (cs:List Cut) (s:Nat)
 | jE (e:E)
 | mu (s:E)
 | Ix (c:BE) (v:Nat)
 | PF (t:Nat) (k:IntKind) (e:E)
 | Uo (t b c:Nat)
 | PG (v:Nat) (i:E) (s c n:Nat)
 | Ku (e:E)
 deriving Repr,Inhabited
def aj(k:IntKind)(n:Nat)(f:Nat→Int):List Value:=(List.range n).map fun j=> .int k (f j)
def fS(v:Value)(n:Nat):Value:=
 match v with
 | .slice (some a) _ _=> .pointer (some (a.add n))
 | _=> .pointer none
def aF(s:Nat)(v:Value)(lo hi:Nat)(mx:Option Nat):Value:=
 match v with
 | .slice a _ c=> .slice (if mx.getD c=lo then a else a.map (·.add (lo*s))) (hi - lo) (mx.getD c - lo)
 | _=> .nilIface
theorem bR(s:Nat)(v:Value)(lo hi:Nat)(mx:Option Nat):(aF s v lo hi mx).oneCell'=true:=by
 unfold aF;split<;>rfl
def dS(ρ:Env)(s:Nat)(v:Value):List Cut→Value
 | []=>v
 | c::r=>dS ρ s (aF s v (c.lo.den ρ 0).toNat (c.hi.den ρ 0).toNat (c.mx.map fun m=>(m.den ρ 0).toNat)) r
theorem oM(ρ:Env)(s:Nat): ∀(cs:List Cut) (v:Value),v.oneCell'=true→(dS ρ s v cs).oneCell'=true
 | [],_,h=>h
 | _::r,_,_=>oM ρ s r _ (bR ..)
theorem pg(ρ:Env)(s:Nat): ∀(a b:List Cut) (v:Value),dS ρ s v (a++b)=dS ρ s (dS ρ s v a) b
 | [],_,_=>rfl
 | _::r,b,_=>pg ρ s r b _
def cN(z:Int):Value:=if z=0 then .pointer none else .pointer (some ⟨(z - 1).toNat,0,none⟩)
theorem eY(b:Nat):cN ((b:Nat)+1)= .pointer (some ⟨b,0,none⟩):=by
 unfold cN;rw [if_neg (by omega),show((b:Int)+1 - 1).toNat=b by omega]
theorem FK(z:Int):(cN z).oneCell'=true:=by unfold cN;split<;>rfl
def PH(q:Nat):Value:=if(dO q).1=0 then .slice none (dO (dO q).2).1 (dO (dO q).2).2 else
 .slice (some ⟨(dO q).1 - 1,(dO (dO q).2).1,some (dO (dO (dO q).2).2).1⟩) (dO (dO (dO (dO q).2).2).2).1 (dO (dO (dO (dO q).2).2).2).2
def cc(z:Int):Value:=if z=0 then .slice none 0 0 else if z<0 then PH (-z).toNat else
 .slice (some ⟨(dO z.toNat).1,(dO (dO z.toNat).2).1,none⟩) (dO (dO (dO z.toNat).2).2).1 (dO (dO (dO z.toNat).2).2).2
def Up(b o n c:Nat):Int:=(kj b (kj o (kj n c)):Nat)
theorem wK(i j:Nat):0<kj i j:=Nat.mul_pos (Nat.two_pow_pos i) (by omega)
theorem PI:cc 0= .slice none 0 0:=rfl
theorem CN(b o n c:Nat):cc (Up b o n c)= .slice (some ⟨b,o,none⟩) n c:=by
 have:=wK b (kj o (kj n c));unfold cc Up;rw [if_neg (by omega),if_neg (by omega),auD,fq,fq,fq]
theorem kG(z:Int):(cc z).oneCell'=true:=by
 unfold cc;split
 ·rfl
 ·split
  ·unfold PH;split<;>rfl
  ·rfl
theorem PJ(a:Option Addr)(n c:Nat): ∃z:Int,.slice a n c=cc z:=by
 have key: ∀q:Nat,0<q→cc (-(q:Int))=PH q:=by
  intro q hq;unfold cc;rw [if_neg (by omega),if_pos (by omega),Int.neg_neg,auD]
 cases a with
 | none=>
  refine⟨-((kj 0 (kj n c):Nat):Int),?_⟩;rw [key _ (wK _ _)];unfold PH;rw [fq,fq,if_pos rfl]
 | some a=>
  obtain⟨b,o,sp⟩:=a;cases sp with
  | none=>exact⟨Up b o n c,(CN b o n c).symm⟩
  | some k=>
   refine⟨-((kj (b+1) (kj o (kj k (kj n c))):Nat):Int),?_⟩;rw [key _ (wK _ _)];unfold PH;rw [fq,fq,fq,fq,if_neg (by omega)];rfl
def uW(x:Value):Value:=
 match x with
 | .iface t v=> .iface t v
 | x=> .iface 0 x
mutual
def SV.val(ρ:Env):SV→Value
 | .int k e=> .int k (e.den ρ 0)
 | .bool b=> .bool (b.den ρ)
 | .cu=> .pointer none
 | .bx=> .slice none 0 0
 | .kD=> .nilFunc
 | .pf=> .nilIface
 | .nT=> .map none
 | .undef=>Go.undef
 | .ptr b c=> .pointer (some ⟨ρ.bv.getD b 0,c,none⟩)
 | .qX b i s c=> .pointer (some ⟨ρ.bv.getD b 0,(i.den ρ 0).toNat*s+c,none⟩)
 | .pv v i s c=>fS (ρ.vv.getD v V1.nil).v ((i.den ρ 0).toNat*s+c)
 | .sl b i s n m=> .slice (some ⟨ρ.bv.getD b 0,(i.den ρ 0).toNat*s,none⟩) (n.den ρ 0).toNat (m.den ρ 0).toNat
 | .vv i=>(ρ.vv.getD i V1.nil).v
 | .str l=> .string ⟨l.toArray⟩
 | .fn f jq=> .func (.func f) #[] (SV.bH ρ jq).toArray
 | .fm f first=> .func (.func f) (SV.bH ρ first).toArray #[]
 | .agg cs=> .agg (SV.ao ρ cs).toArray
 | .dg k n a=> .agg (aj k n (a.den ρ)).toArray
 | .oL vs=> .tuple (SV.bH ρ vs).toArray
 | .opt c v=>if c.den ρ then v.val ρ else Go.undef
 | .FJ a i=>((ρ.va.getD a fun _=>V1.nil) (i.den ρ 0).toNat).v
 | .Mk l=> .func (.yield (ρ.bv.getD l 0)) #[] #[]
 | .mp b=> .map (some (ρ.bv.getD b 0))
 | .jJ v cs s=>dS ρ s (ρ.vv.getD v V1.nil).v cs
 | .jE e=>cN (e.den ρ 0)
 | .mu s=> .string ⟨(dC (s.den ρ)).toArray⟩
 | .Ix c v=>if c.den ρ then uW (ρ.vv.getD v V1.nil).v else .nilIface
 | .PF t k e=> .iface t (.int k (e.den ρ 0))
 | .Uo t b c=> .iface t (.pointer (some ⟨ρ.bv.getD b 0,c,none⟩))
 | .PG v i s c n=>zP (ρ.vv.getD v V1.nil).v ((i.den ρ 0).toNat*s+c) n
 | .Ku e=>cc (e.den ρ 0)
def SV.bH(ρ:Env):List SV→List Value
 | []=>[]
 | v::r=>v.val ρ::SV.bH ρ r
def SV.ao(ρ:Env):List SV→List Value
 | []=>[]
 | v::r=>SV.cells ρ v++SV.ao ρ r
def SV.cells(ρ:Env):SV→List Value
 | .agg cs=>SV.ao ρ cs
 | .dg k n a=>aj k n (a.den ρ)
 | .int k e=>[.int k (e.den ρ 0)]
 | .bool b=>[.bool (b.den ρ)]
 | .cu=>[.pointer none]
 | .bx=>[.slice none 0 0]
 | .kD=>[.nilFunc]
 | .pf=>[.nilIface]
 | .nT=>[.map none]
 | .undef=>[Go.undef]
 | .ptr b c=>[.pointer (some ⟨ρ.bv.getD b 0,c,none⟩)]
 | .qX b i s c=>[.pointer (some ⟨ρ.bv.getD b 0,(i.den ρ 0).toNat*s+c,none⟩)]
 | .pv v i s c=>[fS (ρ.vv.getD v V1.nil).v ((i.den ρ 0).toNat*s+c)]
 | .sl b i s n m=>[.slice (some ⟨ρ.bv.getD b 0,(i.den ρ 0).toNat*s,none⟩) (n.den ρ 0).toNat (m.den ρ 0).toNat]
 | .vv i=>[(ρ.vv.getD i V1.nil).v]
 | .str l=>[.string ⟨l.toArray⟩]
 | .fn f jq=>[.func (.func f) #[] (SV.bH ρ jq).toArray]
 | .fm f first=>[.func (.func f) (SV.bH ρ first).toArray #[]]
 | .oL vs=>[.tuple (SV.bH ρ vs).toArray]
 | .opt c v=>[if c.den ρ then v.val ρ else Go.undef]
 | .FJ a i=>[((ρ.va.getD a fun _=>V1.nil) (i.den ρ 0).toNat).v]
 | .Mk l=>[.func (.yield (ρ.bv.getD l 0)) #[] #[]]
 | .mp b=>[.map (some (ρ.bv.getD b 0))]
 | .jJ v cs s=>[dS ρ s (ρ.vv.getD v V1.nil).v cs]
 | .jE e=>[cN (e.den ρ 0)]
 | .mu s=>[.string ⟨(dC (s.den ρ)).toArray⟩]
 | .Ix c v=>[if c.den ρ then uW (ρ.vv.getD v V1.nil).v else .nilIface]
 | .PF t k e=>[.iface t (.int k (e.den ρ 0))]
 | .Uo t b c=>[.iface t (.pointer (some ⟨ρ.bv.getD b 0,c,none⟩))]
 | .PG v i s c n=>[zP (ρ.vv.getD v V1.nil).v ((i.den ρ 0).toNat*s+c) n]
 | .Ku e=>[cc (e.den ρ 0)]
end
structure iP (w w':World):Prop where
 os:w'.os=w.os
 tape:w'.tape=w.tape
 output:w'.output=w.output
 size:w.heap.size≤w'.heap.size
theorem iP.refl(w:World):iP w w:=⟨rfl,rfl,rfl,Nat.le_refl _⟩
theorem iP.trans{a b c:World}(h:iP a b)(k:iP b c):iP a c:=
 ⟨k.os.trans h.os,k.tape.trans h.tape,k.output.trans h.output,Nat.le_trans h.size k.size⟩
structure Sep (hs:List HP) (S:Nat→Nat→Prop) (w:World):Prop where
 at_: ∀i h,hs[i]? =some h→h.p w (S i)∧∀k,S i k→k<w.heap.size
 apart: ∀i j hi hj,i≠j→hs[i]? =some hi→hs[j]? =some hj→(hi.wr=true∨hj.wr=true)→∀k,S i k→¬S j k
def bz(hs:List HP)(w:World):Prop:= ∃S,Sep hs S w
def HP.emp:HP:=⟨false,fun _ S=> ∀k,¬S k,fun _ _ _ h _=>h⟩
theorem bz.pick{hs:List HP}{w:World}(h:bz hs w)(idx:List Nat)(lP:List HP)(iy:idx.Nodup)
  (he: ∀j:Nat,lP[j]? =(idx[j]?).bind (fun i=>hs[i]?)):bz lP w:=by
 obtain⟨S,hS⟩:=h;refine⟨fun j=>S (idx.getD j 0),⟨?_,?_⟩⟩
 ·intro j x hx;rw [he]at hx;cases hj:idx[j]? with
  | none=>simp [hj]at hx
  | some i=>
   simp only [hj,Option.bind_some]at hx;have:idx.getD j 0=i:=by simp [List.getD,hj]
   rw [this];exact hS.at_ i x hx
 ·intro i j hi hj fy Xw hxj hw k;rw [he]at Xw hxj;cases cD:idx[i]? with
  | none=>simp [cD]at Xw
  | some ii=>
   cases lq:idx[j]? with
   | none=>simp [lq]at hxj
   | some jj=>
    simp only [cD,lq,Option.bind_some]at Xw hxj;have e1:idx.getD i 0=ii:=by simp [List.getD,cD]
    have e2:idx.getD j 0=jj:=by simp [List.getD,lq]
    rw [e1,e2];refine hS.apart ii jj hi hj ?_ Xw hxj hw k;intro e;subst e;rw [aup]at cD lq;obtain⟨a1,b1⟩:=cD;obtain⟨a2,b2⟩:=lq;have hpw:=List.pairwise_iff_getElem.1 iy;rcases Nat.lt_or_gt_of_ne fy with h | h
    ·exact hpw i j a1 a2 h (b1.trans b2.symm)
    ·exact hpw j i a2 a1 h (b2.trans b1.symm)
theorem Sep.step{hs:List HP}{S:Nat→Nat→Prop}{w w':World}(h:Sep hs S w)(i:Nat)(h0 h':HP)(hi:hs[i]? =some h0)(hw:h0.wr=true)
  (S':Nat→Prop) (eZ:w.heap.size≤w'.heap.size) (uX: ∀k,k<w.heap.size→¬S i k→w'.heap[k]? =w.heap[k]?)
  (hp:h'.p w' S') (fi: ∀k,S' k→S i k∨(w.heap.size≤k∧k<w'.heap.size)):
  Sep (hs.set i h') (fun j=>if j=i then S' else S j) w':=by
 have cF:i<hs.length:=(aup.1 hi).1;refine⟨?_,?_⟩
 ·intro j x hx;by_cases hj:j=i
  ·subst hj;rw [List.getElem?_set_self cF]at hx;cases hx;simp only [if_true];refine⟨hp,fun k hk=>?_⟩;rcases fi k hk with h1 | h1
   ·exact auB ((h.at_ _ _ hi).2 k h1) eZ
   ·exact h1.2
  ·rw [auV (Ne.symm hj)]at hx;simp only [hj,if_false];obtain⟨hpx,hb⟩:=h.at_ j x hx;refine⟨x.fh w w' _ hpx fun k hk=>uX k (hb k hk) ?_,fun k hk=>auB (hb k hk) eZ⟩;exact fun hik=>h.apart i j h0 x (Ne.symm hj) hi hx (.inl hw) k hik hk
 ·intro a b ha hb fy Ia Ml wF k;by_cases Uq:a=i
  ·subst Uq;have hbi:b≠a:=Ne.symm fy;rw [auV fy]at Ml;simp only [if_true,hbi,if_false];intro hk Kv;rcases fi k hk with h1 | h1
   ·exact h.apart a b h0 hb fy hi Ml (.inl hw) k h1 Kv
   ·exact absurd ((h.at_ b hb Ml).2 k Kv) (by omega)
  ·rw [auV (Ne.symm Uq)]at Ia;by_cases YA:b=i
   ·subst YA;simp only [if_true,Uq,if_false];intro hk Kv;rcases fi k Kv with h1 | h1
    ·exact h.apart a b ha h0 fy Ia hi (.inr hw) k hk h1
    ·exact absurd ((h.at_ a ha Ia).2 k hk) (by omega)
   ·rw [auV (Ne.symm YA)]at Ml;simp only [Uq,YA,if_false];exact h.apart a b ha hb fy Ia Ml wF k
theorem Sep.YB{hs:List HP}{S:Nat→Nat→Prop}{w w':World}(h:Sep hs S w)(eZ:w.heap.size≤w'.heap.size)
  (uX: ∀k,k<w.heap.size→w'.heap[k]? =w.heap[k]?):Sep hs S w':=by
 refine⟨fun i x hx=>?_,h.apart⟩;obtain⟨hp,hb⟩:=h.at_ i x hx;exact⟨x.fh w w' _ hp fun k hk=>uX k (hb k hk),fun k hk=>auB (hb k hk) eZ⟩
theorem Sep.new{hs:List HP}{S:Nat→Nat→Prop}{w w':World}(h:Sep hs S w)(i:Nat)(h':HP)(hi:hs[i]? =some HP.emp)
  (S':Nat→Prop) (eZ:w.heap.size≤w'.heap.size) (uX: ∀k,k<w.heap.size→w'.heap[k]? =w.heap[k]?)
  (hp:h'.p w' S') (fi: ∀k,S' k→w.heap.size≤k∧k<w'.heap.size):
  Sep (hs.set i h') (fun j=>if j=i then S' else S j) w':=by
 have cF:i<hs.length:=(aup.1 hi).1;refine⟨?_,?_⟩
 ·intro j x hx;by_cases hj:j=i
  ·subst hj;rw [List.getElem?_set_self cF]at hx;cases hx;simp only [if_true];exact⟨hp,fun k hk=>(fi k hk).2⟩
  ·rw [auV (Ne.symm hj)]at hx;simp only [hj,if_false];obtain⟨hpx,hb⟩:=h.at_ j x hx;exact⟨x.fh w w' _ hpx fun k hk=>uX k (hb k hk),fun k hk=>auB (hb k hk) eZ⟩
 ·intro a b ha hb fy Ia Ml wF k;by_cases Uq:a=i
  ·subst Uq;have hbi:b≠a:=Ne.symm fy;rw [auV fy]at Ml;simp only [if_true,hbi,if_false];intro hk Kv;have:=(h.at_ b hb Ml).2 k Kv;have:=fi k hk;omega
  ·rw [auV (Ne.symm Uq)]at Ia;by_cases YA:b=i
   ·subst YA;simp only [if_true,Uq,if_false];intro hk Kv;have:=(h.at_ a ha Ia).2 k hk;have:=fi k Kv;omega
   ·rw [auV (Ne.symm YA)]at Ml;simp only [Uq,YA,if_false];exact h.apart a b ha hb fy Ia Ml wF k
def ak(b:Nat)(wr:Bool)(cs:List Value):HP where
 wr:=wr
 p w S:=(∀k,S k↔k=b)∧∃ty fz,w.heap[b]? =some (.cells cs.toArray ty fz)∧(wr=true→fz=(0,0))
 fh w w' S h hk:=by
  obtain⟨h1,ty,fz,h2,h3⟩:=h;exact⟨h1,ty,fz,(hk b ((h1 b).2 rfl)).trans h2,h3⟩
def Xx(b:Nat)(l:List UInt8)(pos:Nat):HP where
 wr:=true
 p w S:=(∀k,S k↔k=b)∧w.heap[b]? =some (.stringIter ⟨l.toArray⟩ pos)
 fh _ _ _ h hk:=⟨h.1,(hk b ((h.1 b).2 rfl)).trans h.2⟩
def Xy(b m:Nat):HP where
 wr:=true
 p w S:=(∀k,S k↔k=b)∧∃c,w.heap[b]? =some (.mapIter (some m) c #[] c)
 fh _ _ _ h hk:=by
  obtain⟨h1,c,h2⟩:=h;exact⟨h1,c,(hk b ((h1 b).2 rfl)).trans h2⟩
def Xz(b t e:Nat)(bs:List Value):HP where
 wr:=true
 p w S:= ∃pv v,w.heap[b]? =some (.cells #[pv,v] t (0,0))∧(pv= .pointer none∨pv= .pointer (some ⟨b,0,none⟩))∧w.ownsRow 0 e 1 v bs.length bs∧
  v.ownBlock≠some b∧∀k,S k↔k=b∨v.ownBlock=some k
 fh w w' S h hk:=by
  obtain⟨pv,v,h1,h2,h3,h4,h5⟩:=h;refine⟨pv,v,(hk b ((h5 b).2 (.inl rfl))).trans h1,h2,⟨h3.1,?_⟩,h4,h5⟩;rcases h3.2 with hn | ⟨g,cap,cur,rfl,hB,hg,r⟩
  ·exact .inl hn
  ·exact .inr ⟨g,cap,cur,rfl,hB,(hk g ((h5 g).2 (.inr rfl))).trans hg,r⟩
def PK(l:Nat)(r:Loop):HP where
 wr:=true
 p w S:=(∀k,S k↔k=l)∧w.heap[l]? =some (.loop r)
 fh w w' S h hk:=⟨h.1,by rw [hk l ((h.1 l).2 rfl)];exact h.2⟩
def zQ(b:Nat):HP where
 wr:=true
 p w S:=(∀k,S k↔k=b)∧w.heap[b]? =some (.deferred (some []))
 fh w w' S h hk:=⟨h.1,by rw [hk b ((h.1 b).2 rfl)];exact h.2⟩
def mv(l:List Nat):HP where
 wr:=true
 p w S:=(∀k,S k↔k∈l)∧l.Nodup∧∀b,b∈l→w.heap[b]? =some (.deferred (some []))
 fh w w' S h hk:=⟨h.1,h.2.1,fun b hb=>by rw [hk b ((h.1 b).2 hb)];exact h.2.2 b hb⟩
def pU:List Nat→Nat
 | []=>0
 | x::r=>2^x*(2*pU r+1)
theorem PL: ∀{l m:List Nat},pU l=pU m→l=m:=by
 have pos: ∀(x:Nat) (r:List Nat),0<pU (x::r):=fun x r=>Nat.mul_pos (Nat.pow_pos (by decide)) (by omega)
 have key: ∀(x y a b:Nat),2^x*(2*a+1)=2^y*(2*b+1)→x=y∧a=b:=by
  intro x
  induction x with
  | zero=>
   intro y a b h;cases y with
   | zero=>simp at h;exact⟨rfl,by omega⟩
   | succ y=>rw [Nat.pow_succ,Nat.mul_right_comm]at h;omega
  | succ x ih=>
   intro y a b h;cases y with
   | zero=>rw [Nat.pow_succ,Nat.mul_right_comm]at h;omega
   | succ y=>
    rw [Nat.pow_succ,Nat.pow_succ,Nat.mul_right_comm,Nat.mul_right_comm _ 2]at h;obtain⟨h1,h2⟩:=ih y a b (by omega);exact⟨by omega,h2⟩
 intro l
 induction l with
 | nil=>
  intro m h;cases m with
  | nil=>rfl
  | cons y s=>have:=pos y s;rw [←h]at this;simp [pU]at this
 | cons x r ih=>
  intro m h;cases m with
  | nil=>have:=pos x r;rw [h]at this;simp [pU]at this
  | cons y s=>
   obtain⟨rfl,h2⟩:=key _ _ _ _ h;rw [ih h2]
open Classical in
noncomputable def rA(n:Nat):List Nat:=if h: ∃l,pU l=n then h.choose else []
theorem pV(l:List Nat):rA (pU l)=l:=by
 have h: ∃m,pU m=pU l:=⟨l,rfl⟩;unfold rA;rw [dif_pos h];exact PL h.choose_spec
def World.views(w:World)(v:Value)(n:Nat)(cs:List Value):Prop:=
 ∃a m c,v= .slice a m c∧m=n∧m≤c∧(a=none→n=0)∧
  ∀ad,a=some ad→(0<n→ad.spot=none)∧∀(j:Nat) u,cs[j]? =some u→w.cell? (ad.add j)=some u
def ru(n:Nat)(fz:Nat×Nat):Prop:=fz.2≤fz.1∨n≤fz.1
theorem ru.zero(n:Nat):ru n (0,0):= .inl (Nat.le_refl _)
theorem ru.off{n:Nat}{fz:Nat×Nat}(h:ru n fz){i:Nat}(hi:i<n):(decide (fz.1≤i)&&decide (i<fz.2))=false:=by
 unfold ru at h;simp;omega
def _root_.Go.World.jF(w:World)(_ s:Nat)(v:Value)(n:Nat)(cs:List Value):Prop:=
 cs.length=n*s∧((v= .slice none 0 0∧n=0)∨
  ∃g o cap cur,v= .slice (some ⟨g,o,none⟩) n cap∧(∃t' fz,w.heap[g]? =some (.cells cur t' fz)∧ru cur.size fz)∧n≤cap∧cap≤maxLen∧(0<cap→o+cap*s≤cur.size)∧(cur.toList.drop o).take (n*s)=cs)
theorem np(w:World)(t s:Nat):w.jF t s (.slice none 0 0) 0 []:=⟨by simp,.inl ⟨rfl,rfl⟩⟩
theorem Mm{w:World}{t s n:Nat}{v:Value}{cs:List Value}(h:w.ownsRow 0 t s v n cs):w.jF t s v n cs:=by
 obtain⟨hl,hr⟩:=h;refine⟨hl,?_⟩;rcases hr with hn | ⟨g,cap,cur,he,_,hg,Fp,Ur,nU,CO⟩
 ·exact .inl hn
 ·exact .inr ⟨g,0,cap,cur,he,⟨t,_,hg,.zero _⟩,Fp,Ur,by omega,by simpa using CO⟩
theorem jr{w:World}{t s n:Nat}{v:Value}{cs:List Value}(h:w.jF t s v n cs){k:Nat}(hk:v.ownBlock=some k):k<w.heap.size:=by
 rcases h.2 with⟨rfl,_⟩ | ⟨g,o,cap,cur,rfl,⟨_,_,hg,_⟩,_⟩
 ·simp [Value.ownBlock]at hk
 ·simp only [Value.ownBlock,auq]at hk;subst hk;exact(auy.1 hg).1
theorem fV(g o j:Nat):(⟨g,o,none⟩:Addr).add j=⟨g,o+j,none⟩:=by unfold Addr.add;split<;>simp_all
theorem kH{w:World}{t s n:Nat}{cs:List Value}{g o m c:Nat}(h:w.jF t s (.slice (some ⟨g,o,none⟩) m c) n cs): ∀j u,cs[j]? =some u→w.cell? ((⟨g,o,none⟩:Addr).add j)=some u:=by
 intro j u hu;rcases h.2 with⟨he,_⟩ | ⟨g',o',cap,cur,he,⟨t',fz,hgg,_⟩,_,_,_,uY⟩
 ·simp at he
 ·simp only [Value.slice.injEq,auq,Addr.mk.injEq,and_true]at he;obtain⟨⟨rfl,rfl⟩,_⟩:=he;rw [fV,cell_of_row w g (o+j) cur t' fz hgg];rw [←uY,List.getElem?_take]at hu;split at hu
  ·rw [List.getElem?_drop]at hu;simpa using hu
  ·cases hu
def aB(md:Bool)(t s:Nat)(v:Value)(n:Nat)(cs:List Value):HP where
 wr:=md
 p w S:=(if md then w.jF t s v n cs else cs.length=n*s∧World.views w v n cs)∧∀k,S k↔v.ownBlock=some k∧(md=true∨0<n)
 fh w w' S h hk:=by
  refine⟨?_,h.2⟩;obtain⟨h0,h2⟩:=h;cases md with
  | true=>
   simp only [if_true]at h0 ⊢;obtain⟨hl,hr⟩:=h0;refine⟨hl,?_⟩;rcases hr with hn | ⟨g,o,cap,cur,rfl,⟨t',fz,hg,hz⟩,rest⟩
   ·exact .inl hn
   ·refine .inr ⟨g,o,cap,cur,rfl,⟨t',fz,?_,hz⟩,rest⟩;rw [hk g ((h2 g).2 ⟨by simp [Value.ownBlock],.inl rfl⟩)];exact hg
  | false=>
   simp only [Bool.false_eq_true,if_false]at h0 ⊢;obtain⟨hl,a,m,c,rfl,hm,Us,kI,hc⟩:=h0;refine⟨hl,a,m,c,rfl,hm,Us,kI,fun ad had=>⟨(hc ad had).1,fun j u hu=>?_⟩⟩;subst had;have:=(hc ad rfl).2 j u hu;have hn:0<n:=by
    apply Nat.pos_of_ne_zero;rintro rfl;have nU:cs=[]:=auH (by simpa using hl);rw [nU]at hu;simp at hu
   have hb:=hk ad.block ((h2 ad.block).2 ⟨by simp [Value.ownBlock],.inr hn⟩);have mw:(ad.add j).block=ad.block:=by unfold Addr.add;split<;>rfl
   simpa [World.cell?,mw,hb] using this
def ep(agg:Bool)(kl:List IntKind)(ks:List Int):Value:=
 if agg then .agg ((kl.zip ks).map fun x=> .int x.1 x.2).toArray else
 match kl,ks with
 | [k],[n]=> .int k n
 | _,_=> .nilIface
def wL(agg:Bool)(cs:List Value):Value:=
 if agg then .agg cs.toArray else cs.headD .nilIface
structure XA (es:List MapEntry) (kl:List IntKind) (ka va:Bool) (has:Nat→Bool) (row:Nat→List Value):Prop where
 keys: ∀e∈es,∃ks:List Int,ks.length=kl.length∧e.key=ep ka kl ks∧has (aW ks)=true∧e.val=wL va (row (aW ks))
 once: ∀(i j:Nat) e e',es[i]? =some e→es[j]? =some e'→e.key=e'.key→i=j
 all: ∀ks:List Int,ks.length=kl.length→has (aW ks)=true→∃e∈es,e.key=ep ka kl ks
def uZ(b:Nat)(kl:List IntKind)(ka va:Bool)(zero:List Value)(has:Nat→Bool)(row:Nat→List Value):HP where
 wr:=true
 p w S:=(∀k,S k↔k=b)∧(∃es clock,w.heap[b]? =some (.map es clock)∧XA es.toList kl ka va has row)∧
  (∀ks:List Int,ks.length=kl.length→has (aW ks)=false→row (aW ks)=zero)
 fh w w' S h hk:=by
  refine⟨h.1,?_,h.2.2⟩;obtain⟨es,clock,h1,h2⟩:=h.2.1;exact⟨es,clock,by rw [hk b ((h.1 b).2 rfl)];exact h1,h2⟩
def PM(es:Array MapEntry)(clock:Nat):Prop:=clock=es.size∧∀(i:Nat) e,es[i]? =some e→e.born=i
def oN(b:Nat)(kl:List IntKind)(ka va:Bool)(zero:List Value)(f:Nat→Int)(row:Nat→List Value):HP where
 wr:=true
 p w S:=(uZ b kl ka va zero (fun i=> !(f i==0)) row).p w S∧(∃es clock,w.heap[b]? =some (.map es clock)∧f 0=(es.size:Int))∧
  (∀es clock,w.heap[b]? =some (.map es clock)→PM es clock∧∀ks:List Int,ks.length=kl.length→0≤f (aW ks)∧(2≤f (aW ks)→∃e,es[(f (aW ks)).toNat - 2]? =some e∧e.key=ep ka kl ks))
 fh w w' S h hk:=by
  have hb:=hk b ((h.1.1 b).2 rfl);refine⟨(uZ b kl ka va zero (fun i=> !(f i==0)) row).fh w w' S h.1 hk,?_,fun es clock he=>h.2.2 es clock (by rw [←hb];exact he)⟩;obtain⟨es,clock,h1,h2⟩:=h.2.1;exact⟨es,clock,by rw [hb];exact h1,h2⟩
def pW(n:Nat)(w0:World):HP where
 wr:=false
 p w S:=(∀k,S k↔k<n)∧∀k,k<n→w.heap[k]? =w0.heap[k]?
 fh _ _ _ h hk:=⟨h.1,fun k hn=>(hk k ((h.1 k).2 hn)).trans (h.2 k hn)⟩
end Go.RX
