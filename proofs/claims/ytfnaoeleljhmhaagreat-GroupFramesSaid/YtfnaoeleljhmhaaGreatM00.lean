/- A reflective symbolic executor, part 1: expressions, symbolic values, their meaning; heap predicates with footprints. · A reflective symbolic executor, part 2: ownership of heap predicates, side by side. -/
import Derived.OrdersIn
import Derived.WalkKit

namespace Go.RX
inductive IOp where
 | add | sub | mul | quo | rem | band | bor | bxor | bandNot | shl | shr | imin | imax
 deriving DecidableEq,Repr
inductive E where
 | lit (n:Int)
 | var (i:Nat)
 | avar (i:Nat)
 | sel (a i:E)
 | bin (o:IOp) (k:IntKind) (a b:E)
 | wrap (k:IntKind) (a:E)
 | upd (a i v:E)
 | shift (a o:E)
 | spl (a o n b:E)
 | kc (n:Nat) (a:E)
 | blk (b:Nat)
 | rowl (l:List Int)
 | at2 (a i:E)
 | put2 (a i s:E)
 | sby (s:E)
 | srow (e:E)
 | scd (s:E)
 deriving DecidableEq,Repr,Inhabited
inductive BE where
 | lit (b:Bool)
 | var (i:Nat)
 | eq (a b:E)
 | lt (a b:E)
 | le (a b:E)
 | nz (a:E)
 | aeq (n:Nat) (a b:E)
 | not (a:BE)
 | and (a b:BE)
 | or (a b:BE)
 | ite (c t e:BE)
 | seq (a b:E)
 | vnil (i:Nat)
 deriving DecidableEq,Repr,Inhabited
structure HP where
 wr:Bool
 p:World→(Nat→Prop)→Prop
 stable: ∀w w' S,p w S→(∀k,S k→w'.heap[k]? =w.heap[k]?)→p w' S
structure V1 where
 v:Value
 one:v.oneCell'=true
def V1.nil:V1:=⟨.nilIface,rfl⟩
structure Env where
 iv:List Int:=[]
 av:List (Nat→Int):=[]
 bo:List Bool:=[]
 bv:List Nat:=[]
 vv:List V1:=[]
 va:List (Nat→V1):=[]
 pv:List HP:=[]
 lr:List Loop:=[]
def bitsOp(o:IOp)(k:IntKind)(x y:Int):Int:=
 let a:=BitVec.ofInt k.bits x
 let b:=BitVec.ofInt k.bits y
 match o with
 | .band=>k.wrap (a &&& b).toNat
 | .bor=>k.wrap (a|||b).toNat
 | .bxor=>k.wrap (a^^^b).toNat
 | _=>k.wrap (a &&& ~~~b).toNat
def iop(o:IOp)(k:IntKind)(x y:Int):Int:=
 match o with
 | .add=>x+y
 | .sub=>x - y
 | .mul=>x*y
 | .quo=>x.tdiv y
 | .rem=>x.tmod y
 | .imin=>if y<x then y else x
 | .imax=>if x<y then y else x
 | .shl=>k.wrap (x*2^(min y.toNat k.bits))
 | .shr=>x.fdiv (2^(min y.toNat k.bits))
 | o=>bitsOp o k x y
def zig:Int→Nat
 | .ofNat n=>2*n
 | .negSucc n=>2*n+1
def kcode1(acc:Nat)(z:Int):Nat:=(2*(acc*2^((zig z).log2+1)+zig z)+1)*2^((zig z).log2+1)
def kcode(l:List Int):Nat:=l.foldl kcode1 0
def strD(f:Nat→Int):List UInt8:=(List.range (f 0).toNat).map fun j=>UInt8.ofNat (f (j+1)).toNat
def rowS(l:List UInt8):Nat→Int
 | 0=>l.length
 | j+1=>((l.getD j 0).toNat:Nat)
theorem strD_rowS(l:List UInt8):strD (rowS l)=l:=by
 apply List.ext_getElem?;intro j;simp only [strD,rowS,Int.toNat_natCast,List.getElem?_map];by_cases h:j<l.length
 ·rw [List.getElem?_range h,List.getElem?_eq_getElem h];simp [List.getD,List.getElem?_eq_getElem h]
 ·rw [List.getElem?_eq_none (by simp;omega),List.getElem?_eq_none (by omega)];rfl
theorem strD_length(f:Nat→Int):(strD f).length=(f 0).toNat:=by simp [strD]
def two:Nat→Nat→Nat×Nat
 | 0,k=>(0,k)
 | d+1,k=>if k%2=1 then(0,k/2)else((two d (k/2)).1+1,(two d (k/2)).2)
def pair2(i j:Nat):Nat:=2^i*(2*j+1)
theorem two_pair: ∀(i j d:Nat),i<d→two d (pair2 i j)=(i,j)
 | 0,j,d+1,_=>by unfold two pair2;rw [if_pos (by omega)];congr 1;omega
 | i+1,j,d+1,h=>by
  have e:pair2 (i+1) j=2*pair2 i j:=by unfold pair2;rw [Nat.pow_succ,Nat.mul_comm (2^i) 2,Nat.mul_assoc]
  unfold two;rw [if_neg (by rw [e];omega),e,Nat.mul_div_cancel_left _ (by decide),two_pair i j d (by omega)]
def split2(k:Nat):Nat×Nat:=two k k
theorem split2_pair(i j:Nat):split2 (pair2 i j)=(i,j):=by
 apply two_pair;unfold pair2;have h1:i<2^i:=Nat.lt_two_pow_self;have h2:2^i*1≤2^i*(2*j+1):=Nat.mul_le_mul_left _ (by omega);omega
def at2F(f:Nat→Int)(i:Nat):Nat→Int:=fun j=>f (pair2 i j)
def put2F(f:Nat→Int)(i:Nat)(s:Nat→Int):Nat→Int:=fun k=>if(split2 k).1=i then s (split2 k).2 else f k
theorem at2_put2(f:Nat→Int)(i j:Nat)(s:Nat→Int):at2F (put2F f i s) j=if j=i then s else at2F f j:=by
 funext k;simp only [at2F,put2F,split2_pair];split<;>rfl
def sCode:List UInt8→Nat
 | []=>0
 | b::r=>sCode r*256+b.toNat+1
def decF:Nat→Nat→List UInt8
 | 0,_=>[]
 | f+1,m=>if m=0 then []else UInt8.ofNat ((m - 1)%256)::decF f ((m - 1)/256)
def sDec(z:Int):List UInt8:=decF z.toNat z.toNat
theorem decF_code: ∀(l:List UInt8) (f:Nat),sCode l≤f→decF f (sCode l)=l
 | [],f,_=>by cases f<;>simp [decF,sCode]
 | b::r,0,h=>by simp [sCode]at h
 | b::r,f+1,h=>by
  have hb:b.toNat<256:=b.toNat_lt;simp only [sCode]at h;unfold decF;rw [if_neg (by simp [sCode])];have e1:sCode (b::r) - 1=sCode r*256+b.toNat:=by simp [sCode]
  rw [e1,show(sCode r*256+b.toNat)%256=b.toNat by omega,show(sCode r*256+b.toNat)/256=sCode r by omega,decF_code r f (by omega)];simp
theorem sDec_code(l:List UInt8):sDec ((sCode l:Nat):Int)=l:=decF_code l _ (Nat.le_refl _)
theorem sDec_zero:sDec 0=[]:=rfl
def srowF(z:Int):Nat→Int:=rowS (sDec z)
def sbyF(f:Nat→Int):Nat→Int:=fun j=>((UInt8.ofNat (f (j+1)).toNat).toNat:Nat)
def E.den(ρ:Env):E→Nat→Int
 | .lit n=>fun _=>n
 | .var i=>fun _=>ρ.iv.getD i 0
 | .avar i=>ρ.av.getD i (fun _=>0)
 | .sel a i=>fun _=>a.den ρ (i.den ρ 0).toNat
 | .bin o k a b=>fun _=>iop o k (a.den ρ 0) (b.den ρ 0)
 | .wrap k a=>fun _=>k.wrap (a.den ρ 0)
 | .upd a i v=>fun j=>if j=(i.den ρ 0).toNat then v.den ρ 0 else a.den ρ j
 | .shift a o=>fun j=>a.den ρ ((o.den ρ 0).toNat+j)
 | .spl a o n b=>fun j=>if(o.den ρ 0).toNat≤j∧j<(o.den ρ 0).toNat+(n.den ρ 0).toNat then b.den ρ (j - (o.den ρ 0).toNat)else a.den ρ j
 | .kc n a=>fun _=>(kcode ((List.range n).map (a.den ρ)):Nat)
 | .blk b=>fun _=>(ρ.bv.getD b 0:Nat)+1
 | .rowl l=>fun j=>l.getD j 0
 | .at2 a i=>at2F (a.den ρ) (i.den ρ 0).toNat
 | .put2 a i s=>put2F (a.den ρ) (i.den ρ 0).toNat (s.den ρ)
 | .sby s=>sbyF (s.den ρ)
 | .srow e=>srowF (e.den ρ 0)
 | .scd s=>fun _=>((sCode (strD (s.den ρ)):Nat):Int)
abbrev E.i(ρ:Env)(e:E):Int:=e.den ρ 0
def aslV(v:Value)(k n:Nat):Value:=
 match v with
 | .slice (some a) _ _=> .slice (some (a.add k)) n n
 | _=> .slice none 0 0
def nilSl:Value→Bool
 | .slice none _ _=>true
 | _=>false
def BE.den(ρ:Env):BE→Bool
 | .lit b=>b
 | .var i=>ρ.bo.getD i false
 | .eq a b=>a.den ρ 0==b.den ρ 0
 | .lt a b=>decide (a.den ρ 0<b.den ρ 0)
 | .le a b=>decide (a.den ρ 0≤b.den ρ 0)
 | .nz a=> !(a.den ρ 0==0)
 | .aeq n a b=>(List.range n).all fun j=>a.den ρ j==b.den ρ j
 | .not a=> !a.den ρ
 | .and a b=>a.den ρ&&b.den ρ
 | .or a b=>a.den ρ||b.den ρ
 | .ite c t e=>if c.den ρ then t.den ρ else e.den ρ
 | .seq a b=>strD (a.den ρ)==strD (b.den ρ)
 | .vnil i=>nilSl (ρ.vv.getD i V1.nil).v
def BE.prop(ρ:Env):BE→Prop
 | .lit b=>b=true
 | .var i=>ρ.bo.getD i false=true
 | .eq a b=>a.den ρ 0=b.den ρ 0
 | .lt a b=>a.den ρ 0<b.den ρ 0
 | .le a b=>a.den ρ 0≤b.den ρ 0
 | .nz a=>a.den ρ 0≠0
 | .aeq n a b=> ∀j,j<n→a.den ρ j=b.den ρ j
 | .not a=> ¬a.prop ρ
 | .and a b=>a.prop ρ∧b.prop ρ
 | .or a b=>a.prop ρ∨b.prop ρ
 | .ite c t e=>(c.prop ρ→t.prop ρ)∧(¬c.prop ρ→e.prop ρ)
 | .seq a b=>strD (a.den ρ)=strD (b.den ρ)
 | .vnil i=>nilSl (ρ.vv.getD i V1.nil).v=true
theorem BE.den_iff(ρ:Env)(b:BE):b.den ρ=true↔b.prop ρ:=by
 induction b with
 | lit b=>rfl
 | var i=>rfl
 | eq a b=>simp [BE.den,BE.prop]
 | lt a b=>simp [BE.den,BE.prop]
 | le a b=>simp [BE.den,BE.prop]
 | nz a=>simp [BE.den,BE.prop]
 | aeq n a b=>simp [BE.den,BE.prop]
 | not a ih=>simp [BE.den,BE.prop,←ih]
 | and a b iha ihb=>simp [BE.den,BE.prop,iha,ihb]
 | or a b iha ihb=>simp [BE.den,BE.prop,iha,ihb]
 | ite c t e ihc iht ihe=>
  simp only [BE.den,BE.prop,←ihc,←iht,←ihe];cases c.den ρ<;>simp
 | seq a b=>simp [BE.den,BE.prop]
 | vnil i=>rfl
structure Cut where
 lo:E
 hi:E
 mx:Option E
 deriving DecidableEq,Repr,Inhabited
inductive SV where
 | int (k:IntKind) (e:E)
 | bool (b:BE)
 | nilp | nils | nilf | nili | nilm | undef
 | ptr (b c:Nat)
 | ptri (b:Nat) (i:E) (s c:Nat)
 | pv (v:Nat) (i:E) (s c:Nat)
 | sl (b:Nat) (i:E) (s:Nat) (n m:E)
 | vv (i:Nat)
 | str (l:List UInt8)
 | fn (f:Nat) (caps:List SV)
 | fm (f:Nat) (first:List SV)
 | fmi (name:String) (t b c:Nat)
 | agg (cs:List SV)
 | seg (k:IntKind) (n:Nat) (a:E)
 | tup (vs:List SV)
 | opt (c:BE) (v:SV)
 | vsel (a:Nat) (i:E)
 | yld (l:Nat)
 | mp (b:Nat)
 | vsub (v:Nat) (cs:List Cut) (s:Nat)
 | ptrE (e:E)
 | strE (s:E)
 | ifv (c:BE) (v:Nat)
 | ifl (t:Nat) (k:IntKind) (e:E)
 | ifp (t b c:Nat)
 | asl (v:Nat) (i:E) (s c n:Nat)
 | cvE (e:E)
 deriving Repr,Inhabited
def segCells(k:IntKind)(n:Nat)(f:Nat→Int):List Value:=(List.range n).map fun j=> .int k (f j)
def intoSlice(v:Value)(n:Nat):Value:=
 match v with
 | .slice (some a) _ _=> .pointer (some (a.add n))
 | _=> .pointer none
def subSlice(s:Nat)(v:Value)(lo hi:Nat)(mx:Option Nat):Value:=
 match v with
 | .slice a _ c=> .slice (if mx.getD c=lo then a else a.map (·.add (lo*s))) (hi - lo) (mx.getD c - lo)
 | _=> .nilIface
theorem subSlice_one(s:Nat)(v:Value)(lo hi:Nat)(mx:Option Nat):(subSlice s v lo hi mx).oneCell'=true:=by
 unfold subSlice;split<;>rfl
def subSlices(ρ:Env)(s:Nat)(v:Value):List Cut→Value
 | []=>v
 | c::r=>subSlices ρ s (subSlice s v (c.lo.den ρ 0).toNat (c.hi.den ρ 0).toNat (c.mx.map fun m=>(m.den ρ 0).toNat)) r
theorem subSlices_one(ρ:Env)(s:Nat): ∀(cs:List Cut) (v:Value),v.oneCell'=true→(subSlices ρ s v cs).oneCell'=true
 | [],_,h=>h
 | _::r,_,_=>subSlices_one ρ s r _ (subSlice_one ..)
theorem subSlices_append(ρ:Env)(s:Nat): ∀(a b:List Cut) (v:Value),subSlices ρ s v (a++b)=subSlices ρ s (subSlices ρ s v a) b
 | [],_,_=>rfl
 | _::r,b,_=>subSlices_append ρ s r b _
def ptrV(z:Int):Value:=if z=0 then .pointer none else .pointer (some ⟨(z - 1).toNat,0,none⟩)
theorem ptrV_blk(b:Nat):ptrV ((b:Nat)+1)= .pointer (some ⟨b,0,none⟩):=by
 unfold ptrV;rw [if_neg (by omega),show((b:Int)+1 - 1).toNat=b by omega]
theorem ptrV_one(z:Int):(ptrV z).oneCell'=true:=by unfold ptrV;split<;>rfl
def bslS(q:Nat):Value:=if(split2 q).1=0 then .slice none (split2 (split2 q).2).1 (split2 (split2 q).2).2 else
 .slice (some ⟨(split2 q).1 - 1,(split2 (split2 q).2).1,some (split2 (split2 (split2 q).2).2).1⟩) (split2 (split2 (split2 (split2 q).2).2).2).1 (split2 (split2 (split2 (split2 q).2).2).2).2
def bslV(z:Int):Value:=if z=0 then .slice none 0 0 else if z<0 then bslS (-z).toNat else
 .slice (some ⟨(split2 z.toNat).1,(split2 (split2 z.toNat).2).1,none⟩) (split2 (split2 (split2 z.toNat).2).2).1 (split2 (split2 (split2 z.toNat).2).2).2
theorem bslV_nil:bslV 0= .slice none 0 0:=rfl
theorem bslV_one(z:Int):(bslV z).oneCell'=true:=by
 unfold bslV;split
 ·rfl
 ·split
  ·unfold bslS;split<;>rfl
  ·rfl
def ifaceOf(x:Value):Value:=
 match x with
 | .iface t v=> .iface t v
 | x=> .iface 0 x
mutual
def SV.val(ρ:Env):SV→Value
 | .int k e=> .int k (e.den ρ 0)
 | .bool b=> .bool (b.den ρ)
 | .nilp=> .pointer none
 | .nils=> .slice none 0 0
 | .nilf=> .nilFunc
 | .nili=> .nilIface
 | .nilm=> .map none
 | .undef=>Go.undef
 | .ptr b c=> .pointer (some ⟨ρ.bv.getD b 0,c,none⟩)
 | .ptri b i s c=> .pointer (some ⟨ρ.bv.getD b 0,(i.den ρ 0).toNat*s+c,none⟩)
 | .pv v i s c=>intoSlice (ρ.vv.getD v V1.nil).v ((i.den ρ 0).toNat*s+c)
 | .sl b i s n m=> .slice (some ⟨ρ.bv.getD b 0,(i.den ρ 0).toNat*s,none⟩) (n.den ρ 0).toNat (m.den ρ 0).toNat
 | .vv i=>(ρ.vv.getD i V1.nil).v
 | .str l=> .string ⟨l.toArray⟩
 | .fn f caps=> .func (.func f) #[] (SV.vals ρ caps).toArray
 | .fm f first=> .func (.func f) (SV.vals ρ first).toArray #[]
 | .fmi name t b c=> .func (.method name) #[.iface t (.pointer (some ⟨ρ.bv.getD b 0,c,none⟩))] #[]
 | .agg cs=> .agg (SV.cellsL ρ cs).toArray
 | .seg k n a=> .agg (segCells k n (a.den ρ)).toArray
 | .tup vs=> .tuple (SV.vals ρ vs).toArray
 | .opt c v=>if c.den ρ then v.val ρ else Go.undef
 | .vsel a i=>((ρ.va.getD a fun _=>V1.nil) (i.den ρ 0).toNat).v
 | .yld l=> .func (.yield (ρ.bv.getD l 0)) #[] #[]
 | .mp b=> .map (some (ρ.bv.getD b 0))
 | .vsub v cs s=>subSlices ρ s (ρ.vv.getD v V1.nil).v cs
 | .ptrE e=>ptrV (e.den ρ 0)
 | .strE s=> .string ⟨(strD (s.den ρ)).toArray⟩
 | .ifv c v=>if c.den ρ then ifaceOf (ρ.vv.getD v V1.nil).v else .nilIface
 | .ifl t k e=> .iface t (.int k (e.den ρ 0))
 | .ifp t b c=> .iface t (.pointer (some ⟨ρ.bv.getD b 0,c,none⟩))
 | .asl v i s c n=>aslV (ρ.vv.getD v V1.nil).v ((i.den ρ 0).toNat*s+c) n
 | .cvE e=>bslV (e.den ρ 0)
def SV.vals(ρ:Env):List SV→List Value
 | []=>[]
 | v::r=>v.val ρ::SV.vals ρ r
def SV.cellsL(ρ:Env):List SV→List Value
 | []=>[]
 | v::r=>SV.cells ρ v++SV.cellsL ρ r
def SV.cells(ρ:Env):SV→List Value
 | .agg cs=>SV.cellsL ρ cs
 | .seg k n a=>segCells k n (a.den ρ)
 | .int k e=>[.int k (e.den ρ 0)]
 | .bool b=>[.bool (b.den ρ)]
 | .nilp=>[.pointer none]
 | .nils=>[.slice none 0 0]
 | .nilf=>[.nilFunc]
 | .nili=>[.nilIface]
 | .nilm=>[.map none]
 | .undef=>[Go.undef]
 | .ptr b c=>[.pointer (some ⟨ρ.bv.getD b 0,c,none⟩)]
 | .ptri b i s c=>[.pointer (some ⟨ρ.bv.getD b 0,(i.den ρ 0).toNat*s+c,none⟩)]
 | .pv v i s c=>[intoSlice (ρ.vv.getD v V1.nil).v ((i.den ρ 0).toNat*s+c)]
 | .sl b i s n m=>[.slice (some ⟨ρ.bv.getD b 0,(i.den ρ 0).toNat*s,none⟩) (n.den ρ 0).toNat (m.den ρ 0).toNat]
 | .vv i=>[(ρ.vv.getD i V1.nil).v]
 | .str l=>[.string ⟨l.toArray⟩]
 | .fn f caps=>[.func (.func f) #[] (SV.vals ρ caps).toArray]
 | .fm f first=>[.func (.func f) (SV.vals ρ first).toArray #[]]
 | .fmi name t b c=>[.func (.method name) #[.iface t (.pointer (some ⟨ρ.bv.getD b 0,c,none⟩))] #[]]
 | .tup vs=>[.tuple (SV.vals ρ vs).toArray]
 | .opt c v=>[if c.den ρ then v.val ρ else Go.undef]
 | .vsel a i=>[((ρ.va.getD a fun _=>V1.nil) (i.den ρ 0).toNat).v]
 | .yld l=>[.func (.yield (ρ.bv.getD l 0)) #[] #[]]
 | .mp b=>[.map (some (ρ.bv.getD b 0))]
 | .vsub v cs s=>[subSlices ρ s (ρ.vv.getD v V1.nil).v cs]
 | .ptrE e=>[ptrV (e.den ρ 0)]
 | .strE s=>[.string ⟨(strD (s.den ρ)).toArray⟩]
 | .ifv c v=>[if c.den ρ then ifaceOf (ρ.vv.getD v V1.nil).v else .nilIface]
 | .ifl t k e=>[.iface t (.int k (e.den ρ 0))]
 | .ifp t b c=>[.iface t (.pointer (some ⟨ρ.bv.getD b 0,c,none⟩))]
 | .asl v i s c n=>[aslV (ρ.vv.getD v V1.nil).v ((i.den ρ 0).toNat*s+c) n]
 | .cvE e=>[bslV (e.den ρ 0)]
end
end Go.RX

namespace Go.RX
structure Same (w w':World):Prop where
 os:w'.os=w.os
 tape:w'.tape=w.tape
 output:w'.output=w.output
 size:w.heap.size≤w'.heap.size
theorem Same.refl(w:World):Same w w:=⟨rfl,rfl,rfl,Nat.le_refl _⟩
theorem Same.trans{a b c:World}(h:Same a b)(k:Same b c):Same a c:=
 ⟨k.os.trans h.os,k.tape.trans h.tape,k.output.trans h.output,Nat.le_trans h.size k.size⟩
structure Sep (hs:List HP) (S:Nat→Nat→Prop) (w:World):Prop where
 at_: ∀i h,hs[i]? =some h→h.p w (S i)∧∀k,S i k→k<w.heap.size
 apart: ∀i j hi hj,i≠j→hs[i]? =some hi→hs[j]? =some hj→(hi.wr=true∨hj.wr=true)→∀k,S i k→¬S j k
def Owns(hs:List HP)(w:World):Prop:= ∃S,Sep hs S w
def HP.emp:HP:=⟨false,fun _ S=> ∀k,¬S k,fun _ _ _ h _=>h⟩
theorem Owns.pick{hs:List HP}{w:World}(h:Owns hs w)(idx:List Nat)(hs':List HP)(hnd:idx.Nodup)
  (he: ∀j:Nat,hs'[j]? =(idx[j]?).bind (fun i=>hs[i]?)):Owns hs' w:=by
 obtain⟨S,hS⟩:=h;refine⟨fun j=>S (idx.getD j 0),⟨?_,?_⟩⟩
 ·intro j x hx;rw [he]at hx;cases hj:idx[j]? with
  | none=>simp [hj]at hx
  | some i=>
   simp only [hj,Option.bind_some]at hx;have:idx.getD j 0=i:=by simp [List.getD,hj]
   rw [this];exact hS.at_ i x hx
 ·intro i j hi hj hne hxi hxj hw k;rw [he]at hxi hxj;cases hi':idx[i]? with
  | none=>simp [hi']at hxi
  | some ii=>
   cases hj':idx[j]? with
   | none=>simp [hj']at hxj
   | some jj=>
    simp only [hi',hj',Option.bind_some]at hxi hxj;have e1:idx.getD i 0=ii:=by simp [List.getD,hi']
    have e2:idx.getD j 0=jj:=by simp [List.getD,hj']
    rw [e1,e2];refine hS.apart ii jj hi hj ?_ hxi hxj hw k;intro e;subst e;rw [List.getElem?_eq_some_iff]at hi' hj';obtain⟨a1,b1⟩:=hi';obtain⟨a2,b2⟩:=hj';have hpw:=List.pairwise_iff_getElem.1 hnd;rcases Nat.lt_or_gt_of_ne hne with h | h
    ·exact hpw i j a1 a2 h (b1.trans b2.symm)
    ·exact hpw j i a2 a1 h (b2.trans b1.symm)
theorem Sep.step{hs:List HP}{S:Nat→Nat→Prop}{w w':World}(h:Sep hs S w)(i:Nat)(h0 h':HP)(hi:hs[i]? =some h0)(hw:h0.wr=true)
  (S':Nat→Prop) (hsize:w.heap.size≤w'.heap.size) (hkeep: ∀k,k<w.heap.size→¬S i k→w'.heap[k]? =w.heap[k]?)
  (hp:h'.p w' S') (hsub: ∀k,S' k→S i k∨(w.heap.size≤k∧k<w'.heap.size)):
  Sep (hs.set i h') (fun j=>if j=i then S' else S j) w':=by
 have hlt:i<hs.length:=(List.getElem?_eq_some_iff.1 hi).1;refine⟨?_,?_⟩
 ·intro j x hx;by_cases hj:j=i
  ·subst hj;rw [List.getElem?_set_self hlt]at hx;cases hx;simp only [if_true];refine⟨hp,fun k hk=>?_⟩;rcases hsub k hk with h1 | h1
   ·exact Nat.lt_of_lt_of_le ((h.at_ _ _ hi).2 k h1) hsize
   ·exact h1.2
  ·rw [List.getElem?_set_ne (Ne.symm hj)]at hx;simp only [hj,if_false];obtain⟨hpx,hb⟩:=h.at_ j x hx;refine⟨x.stable w w' _ hpx fun k hk=>hkeep k (hb k hk) ?_,fun k hk=>Nat.lt_of_lt_of_le (hb k hk) hsize⟩;exact fun hik=>h.apart i j h0 x (Ne.symm hj) hi hx (.inl hw) k hik hk
 ·intro a b ha hb hne hxa hxb hwr k;by_cases haj:a=i
  ·subst haj;have hbi:b≠a:=Ne.symm hne;rw [List.getElem?_set_ne hne]at hxb;simp only [if_true,hbi,if_false];intro hk hbk;rcases hsub k hk with h1 | h1
   ·exact h.apart a b h0 hb hne hi hxb (.inl hw) k h1 hbk
   ·exact absurd ((h.at_ b hb hxb).2 k hbk) (by omega)
  ·rw [List.getElem?_set_ne (Ne.symm haj)]at hxa;by_cases hbj:b=i
   ·subst hbj;simp only [if_true,haj,if_false];intro hk hbk;rcases hsub k hbk with h1 | h1
    ·exact h.apart a b ha h0 hne hxa hi (.inr hw) k hk h1
    ·exact absurd ((h.at_ a ha hxa).2 k hk) (by omega)
   ·rw [List.getElem?_set_ne (Ne.symm hbj)]at hxb;simp only [haj,hbj,if_false];exact h.apart a b ha hb hne hxa hxb hwr k
theorem Sep.keep{hs:List HP}{S:Nat→Nat→Prop}{w w':World}(h:Sep hs S w)(hsize:w.heap.size≤w'.heap.size)
  (hkeep: ∀k,k<w.heap.size→w'.heap[k]? =w.heap[k]?):Sep hs S w':=by
 refine⟨fun i x hx=>?_,h.apart⟩;obtain⟨hp,hb⟩:=h.at_ i x hx;exact⟨x.stable w w' _ hp fun k hk=>hkeep k (hb k hk),fun k hk=>Nat.lt_of_lt_of_le (hb k hk) hsize⟩
theorem Sep.new{hs:List HP}{S:Nat→Nat→Prop}{w w':World}(h:Sep hs S w)(i:Nat)(h':HP)(hi:hs[i]? =some HP.emp)
  (S':Nat→Prop) (hsize:w.heap.size≤w'.heap.size) (hkeep: ∀k,k<w.heap.size→w'.heap[k]? =w.heap[k]?)
  (hp:h'.p w' S') (hsub: ∀k,S' k→w.heap.size≤k∧k<w'.heap.size):
  Sep (hs.set i h') (fun j=>if j=i then S' else S j) w':=by
 have hlt:i<hs.length:=(List.getElem?_eq_some_iff.1 hi).1;refine⟨?_,?_⟩
 ·intro j x hx;by_cases hj:j=i
  ·subst hj;rw [List.getElem?_set_self hlt]at hx;cases hx;simp only [if_true];exact⟨hp,fun k hk=>(hsub k hk).2⟩
  ·rw [List.getElem?_set_ne (Ne.symm hj)]at hx;simp only [hj,if_false];obtain⟨hpx,hb⟩:=h.at_ j x hx;exact⟨x.stable w w' _ hpx fun k hk=>hkeep k (hb k hk),fun k hk=>Nat.lt_of_lt_of_le (hb k hk) hsize⟩
 ·intro a b ha hb hne hxa hxb hwr k;by_cases haj:a=i
  ·subst haj;have hbi:b≠a:=Ne.symm hne;rw [List.getElem?_set_ne hne]at hxb;simp only [if_true,hbi,if_false];intro hk hbk;have:=(h.at_ b hb hxb).2 k hbk;have:=hsub k hk;omega
  ·rw [List.getElem?_set_ne (Ne.symm haj)]at hxa;by_cases hbj:b=i
   ·subst hbj;simp only [if_true,haj,if_false];intro hk hbk;have:=(h.at_ a ha hxa).2 k hk;have:=hsub k hbk;omega
   ·rw [List.getElem?_set_ne (Ne.symm hbj)]at hxb;simp only [haj,hbj,if_false];exact h.apart a b ha hb hne hxa hxb hwr k
def rowHP(b:Nat)(wr:Bool)(cs:List Value):HP where
 wr:=wr
 p w S:=(∀k,S k↔k=b)∧∃ty fz,w.heap[b]? =some (.cells cs.toArray ty fz)∧(wr=true→fz=(0,0))
 stable w w' S h hk:=by
  obtain⟨h1,ty,fz,h2,h3⟩:=h;exact⟨h1,ty,fz,(hk b ((h1 b).2 rfl)).trans h2,h3⟩
def sitHP(b:Nat)(l:List UInt8)(pos:Nat):HP where
 wr:=true
 p w S:=(∀k,S k↔k=b)∧w.heap[b]? =some (.stringIter ⟨l.toArray⟩ pos)
 stable _ _ _ h hk:=⟨h.1,(hk b ((h.1 b).2 rfl)).trans h.2⟩
def mitHP(b m:Nat):HP where
 wr:=true
 p w S:=(∀k,S k↔k=b)∧∃c,w.heap[b]? =some (.mapIter (some m) c #[] c)
 stable _ _ _ h hk:=by
  obtain⟨h1,c,h2⟩:=h;exact⟨h1,c,(hk b ((h1 b).2 rfl)).trans h2⟩
def bldHP(b t e:Nat)(bs:List Value):HP where
 wr:=true
 p w S:= ∃pv v,w.heap[b]? =some (.cells #[pv,v] t (0,0))∧(pv= .pointer none∨pv= .pointer (some ⟨b,0,none⟩))∧w.ownsRow 0 e 1 v bs.length bs∧
  v.ownBlock≠some b∧∀k,S k↔k=b∨v.ownBlock=some k
 stable w w' S h hk:=by
  obtain⟨pv,v,h1,h2,h3,h4,h5⟩:=h;refine⟨pv,v,(hk b ((h5 b).2 (.inl rfl))).trans h1,h2,⟨h3.1,?_⟩,h4,h5⟩;rcases h3.2 with hn | ⟨g,cap,cur,rfl,hB,hg,r⟩
  ·exact .inl hn
  ·exact .inr ⟨g,cap,cur,rfl,hB,(hk g ((h5 g).2 (.inr rfl))).trans hg,r⟩
def recHP(l:Nat)(r:Loop):HP where
 wr:=true
 p w S:=(∀k,S k↔k=l)∧w.heap[l]? =some (.loop r)
 stable w w' S h hk:=⟨h.1,by rw [hk l ((h.1 l).2 rfl)];exact h.2⟩
def dfrHP(b:Nat):HP where
 wr:=true
 p w S:=(∀k,S k↔k=b)∧w.heap[b]? =some (.deferred (some []))
 stable w w' S h hk:=⟨h.1,by rw [hk b ((h.1 b).2 rfl)];exact h.2⟩
def dfrsHP(l:List Nat):HP where
 wr:=true
 p w S:=(∀k,S k↔k∈l)∧l.Nodup∧∀b,b∈l→w.heap[b]? =some (.deferred (some []))
 stable w w' S h hk:=⟨h.1,h.2.1,fun b hb=>by rw [hk b ((h.1 b).2 hb)];exact h.2.2 b hb⟩
def encL:List Nat→Nat
 | []=>0
 | x::r=>2^x*(2*encL r+1)
theorem encL_inj: ∀{l m:List Nat},encL l=encL m→l=m:=by
 have pos: ∀(x:Nat) (r:List Nat),0<encL (x::r):=fun x r=>Nat.mul_pos (Nat.pow_pos (by decide)) (by omega)
 have key: ∀(x y a b:Nat),2^x*(2*a+1)=2^y*(2*b+1)→x=y∧a=b:=by
  intro x
  induction x with
  | zero=>
   intro y a b h;cases y with
   | zero=>simp at h;exact⟨rfl,by omega⟩
   | succ y=>rw [Nat.pow_succ,Nat.mul_right_comm]at h;omega
  | succ x ih=>
   intro y a b h;cases y with
   | zero=>rw [Nat.pow_succ,Nat.mul_right_comm]at h;omega
   | succ y=>
    rw [Nat.pow_succ,Nat.pow_succ,Nat.mul_right_comm,Nat.mul_right_comm _ 2]at h;obtain⟨h1,h2⟩:=ih y a b (by omega);exact⟨by omega,h2⟩
 intro l
 induction l with
 | nil=>
  intro m h;cases m with
  | nil=>rfl
  | cons y s=>have:=pos y s;rw [←h]at this;simp [encL]at this
 | cons x r ih=>
  intro m h;cases m with
  | nil=>have:=pos x r;rw [h]at this;simp [encL]at this
  | cons y s=>
   obtain⟨rfl,h2⟩:=key _ _ _ _ h;rw [ih h2]
open Classical in
noncomputable def listOf(n:Nat):List Nat:=if h: ∃l,encL l=n then h.choose else []
theorem listOf_enc(l:List Nat):listOf (encL l)=l:=by
 have h: ∃m,encL m=encL l:=⟨l,rfl⟩;unfold listOf;rw [dif_pos h];exact encL_inj h.choose_spec
def World.views(w:World)(v:Value)(n:Nat)(cs:List Value):Prop:=
 ∃a m c,v= .slice a m c∧m=n∧m≤c∧(a=none→n=0)∧
  ∀ad,a=some ad→(0<n→ad.spot=none)∧∀(j:Nat) u,cs[j]? =some u→w.cell? (ad.add j)=some u
def Loose(s:Nat)(cur:Array Value)(fz:Nat×Nat):Prop:=(fz=(0,0)∨s=1∧(fz.2≤fz.1∨cur.size≤fz.1))∧(s=1∨∀u∈cur.toList,u.oneCell'=true)
theorem Loose.zero{s:Nat}{cur:Array Value}(h:s=1∨∀u∈cur.toList,u.oneCell'=true):Loose s cur (0,0):=⟨.inl rfl,h⟩
theorem Loose.put{s:Nat}{cur cur':Array Value}{fz:Nat×Nat}{vs:List Value}{k m:Nat}(h:Loose s cur fz)(h1: ∀u∈vs,u.oneCell'=true)(he:cur'.toList=cur.toList.take k++vs++cur.toList.drop m)(hs:cur'.size=cur.size):Loose s cur' fz:=by
 obtain⟨h2,h3⟩:=h;refine⟨by rw [hs];exact h2,?_⟩;rcases h3 with h3 | h3
 ·exact .inl h3
 ·refine .inr fun u hu=>?_
  rw [he,List.mem_append,List.mem_append]at hu;rcases hu with(hu | hu) | hu
  ·exact h3 u (List.mem_of_mem_take hu)
  ·exact h1 u hu
  ·exact h3 u (List.mem_of_mem_drop hu)
theorem Loose.cells{s:Nat}{cur:Array Value}{fz:Nat×Nat}{o m:Nat}{xs:List Value}(h:Loose s cur fz)(hx:(cur.toList.drop o).take m=xs):s=1∨∀u∈xs,u.oneCell'=true:=by
 rcases h.2 with h | h
 ·exact .inl h
 ·exact .inr fun u hu=>h u (List.mem_of_mem_drop (List.mem_of_mem_take (hx▸hu)))
theorem zeros_one{z:Array Value}(hz: ∀u∈z.toList,u.oneCell'=true)(n:Nat): ∀u∈(Builtin.zeroCells z n).toList,u.oneCell'=true:=by
 intro u hu;unfold Builtin.zeroCells at hu;simp only [Array.toList_map,Array.toList_range,List.mem_map,List.mem_range]at hu;obtain⟨i,hi,rfl⟩:=hu;have h0:0<z.size:=Nat.pos_of_ne_zero fun e=>by rw [e,Nat.mul_zero]at hi;omega
 have hm:=Nat.mod_lt i h0;rw [getElem!_pos z _ hm];exact hz _ (by simp)
theorem made_one{z:Array Value}(hz: ∀u∈z.toList,u.oneCell'=true)(h0:0<z.size)(n:Nat): ∀u∈(madeCells z n).toList,u.oneCell'=true:=by
 intro u hu;unfold madeCells at hu;simp only [Array.toList_map,Array.toList_range,List.mem_map,List.mem_range]at hu;obtain⟨i,hi,rfl⟩:=hu;have hm:=Nat.mod_lt i h0;rw [getElem!_pos z _ hm];exact hz _ (by simp)
theorem Loose.off{s:Nat}{cur:Array Value}{fz:Nat×Nat}(h:Loose s cur fz){i:Nat}(hi:i<cur.size):(decide (fz.1≤i)&&decide (i<fz.2))=false:=by
 rcases h.1 with rfl | ⟨_,h⟩
 ·simp
 ·simp;omega
def _root_.Go.World.ownsAt(w:World)(_ s:Nat)(v:Value)(n:Nat)(cs:List Value):Prop:=
 cs.length=n*s∧((v= .slice none 0 0∧n=0)∨
  ∃g o cap cur,v= .slice (some ⟨g,o,none⟩) n cap∧(∃t' fz,w.heap[g]? =some (.cells cur t' fz)∧Loose s cur fz)∧n≤cap∧cap≤maxLen∧(0<cap→o+cap*s≤cur.size)∧(cur.toList.drop o).take (n*s)=cs)
theorem ownsAt_nil(w:World)(t s:Nat):w.ownsAt t s (.slice none 0 0) 0 []:=⟨by simp,.inl ⟨rfl,rfl⟩⟩
theorem ownsAt_lt{w:World}{t s n:Nat}{v:Value}{cs:List Value}(h:w.ownsAt t s v n cs){k:Nat}(hk:v.ownBlock=some k):k<w.heap.size:=by
 rcases h.2 with⟨rfl,_⟩ | ⟨g,o,cap,cur,rfl,⟨_,_,hg,_⟩,_⟩
 ·simp [Value.ownBlock]at hk
 ·simp only [Value.ownBlock,Option.some.injEq]at hk;subst hk;exact(Array.getElem?_eq_some_iff.1 hg).1
theorem addr_add_at(g o j:Nat):(⟨g,o,none⟩:Addr).add j=⟨g,o+j,none⟩:=by unfold Addr.add;split<;>simp_all
theorem ownsAt_cells{w:World}{t s n:Nat}{cs:List Value}{g o m c:Nat}(h:w.ownsAt t s (.slice (some ⟨g,o,none⟩) m c) n cs): ∀j u,cs[j]? =some u→w.cell? ((⟨g,o,none⟩:Addr).add j)=some u:=by
 intro j u hu;rcases h.2 with⟨he,_⟩ | ⟨g',o',cap,cur,he,⟨t',fz,hgg,_⟩,_,_,_,htake⟩
 ·simp at he
 ·simp only [Value.slice.injEq,Option.some.injEq,Addr.mk.injEq,and_true]at he;obtain⟨⟨rfl,rfl⟩,_⟩:=he;rw [addr_add_at,cell_of_row w g (o+j) cur t' fz hgg];rw [←htake,List.getElem?_take]at hu;split at hu
  ·rw [List.getElem?_drop]at hu;simpa using hu
  ·cases hu
def sliHP(md:Bool)(t s:Nat)(v:Value)(n:Nat)(cs:List Value):HP where
 wr:=md
 p w S:=(if md then w.ownsAt t s v n cs else cs.length=n*s∧World.views w v n cs)∧∀k,S k↔v.ownBlock=some k∧(md=true∨0<n)
 stable w w' S h hk:=by
  refine⟨?_,h.2⟩;obtain⟨h0,h2⟩:=h;cases md with
  | true=>
   simp only [if_true]at h0 ⊢;obtain⟨hl,hr⟩:=h0;refine⟨hl,?_⟩;rcases hr with hn | ⟨g,o,cap,cur,rfl,⟨t',fz,hg,hz⟩,rest⟩
   ·exact .inl hn
   ·refine .inr ⟨g,o,cap,cur,rfl,⟨t',fz,?_,hz⟩,rest⟩;rw [hk g ((h2 g).2 ⟨by simp [Value.ownBlock],.inl rfl⟩)];exact hg
  | false=>
   simp only [Bool.false_eq_true,if_false]at h0 ⊢;obtain⟨hl,a,m,c,rfl,hm,hmc,hnil,hc⟩:=h0;refine⟨hl,a,m,c,rfl,hm,hmc,hnil,fun ad had=>⟨(hc ad had).1,fun j u hu=>?_⟩⟩;subst had;have:=(hc ad rfl).2 j u hu;have hn:0<n:=by
    apply Nat.pos_of_ne_zero;rintro rfl;have hcs:cs=[]:=List.eq_nil_of_length_eq_zero (by simpa using hl);rw [hcs]at hu;simp at hu
   have hb:=hk ad.block ((h2 ad.block).2 ⟨by simp [Value.ownBlock],.inr hn⟩);have hblk:(ad.add j).block=ad.block:=by unfold Addr.add;split<;>rfl
   simpa [World.cell?,hblk,hb] using this
def encK(agg:Bool)(kl:List IntKind)(ks:List Int):Value:=
 if agg then .agg ((kl.zip ks).map fun x=> .int x.1 x.2).toArray else
 match kl,ks with
 | [k],[n]=> .int k n
 | _,_=> .nilIface
def encV(agg:Bool)(cs:List Value):Value:=
 if agg then .agg cs.toArray else cs.headD .nilIface
structure MapIs (es:List MapEntry) (kl:List IntKind) (ka va:Bool) (has:Nat→Bool) (row:Nat→List Value):Prop where
 keys: ∀e∈es,∃ks:List Int,ks.length=kl.length∧e.key=encK ka kl ks∧has (kcode ks)=true∧e.val=encV va (row (kcode ks))
 once: ∀(i j:Nat) e e',es[i]? =some e→es[j]? =some e'→e.key=e'.key→i=j
 all: ∀ks:List Int,ks.length=kl.length→has (kcode ks)=true→∃e∈es,e.key=encK ka kl ks
def mapHP(b:Nat)(kl:List IntKind)(ka va:Bool)(zero:List Value)(has:Nat→Bool)(row:Nat→List Value):HP where
 wr:=true
 p w S:=(∀k,S k↔k=b)∧(∃es clock,w.heap[b]? =some (.map es clock)∧MapIs es.toList kl ka va has row)∧
  (∀ks:List Int,ks.length=kl.length→has (kcode ks)=false→row (kcode ks)=zero)
 stable w w' S h hk:=by
  refine⟨h.1,?_,h.2.2⟩;obtain⟨es,clock,h1,h2⟩:=h.2.1;exact⟨es,clock,by rw [hk b ((h.1 b).2 rfl)];exact h1,h2⟩
def Births(es:Array MapEntry)(clock:Nat):Prop:=clock=es.size∧∀(i:Nat) e,es[i]? =some e→e.born=i
def mapNHP(b:Nat)(kl:List IntKind)(ka va:Bool)(zero:List Value)(f:Nat→Int)(row:Nat→List Value):HP where
 wr:=true
 p w S:=(mapHP b kl ka va zero (fun i=> !(f i==0)) row).p w S∧(∃es clock,w.heap[b]? =some (.map es clock)∧f 0=(es.size:Int))∧
  (∀es clock,w.heap[b]? =some (.map es clock)→Births es clock∧∀ks:List Int,ks.length=kl.length→0≤f (kcode ks)∧(2≤f (kcode ks)→∃e,es[(f (kcode ks)).toNat - 2]? =some e∧e.key=encK ka kl ks))
 stable w w' S h hk:=by
  have hb:=hk b ((h.1.1 b).2 rfl);refine⟨(mapHP b kl ka va zero (fun i=> !(f i==0)) row).stable w w' S h.1 hk,?_,fun es clock he=>h.2.2 es clock (by rw [←hb];exact he)⟩;obtain⟨es,clock,h1,h2⟩:=h.2.1;exact⟨es,clock,by rw [hb];exact h1,h2⟩
def keptHP(n:Nat)(w0:World):HP where
 wr:=false
 p w S:=(∀k,S k↔k<n)∧∀k,k<n→w.heap[k]? =w0.heap[k]?
 stable _ _ _ h hk:=⟨h.1,fun k hn=>(hk k ((h.1 k).2 hn)).trans (h.2 k hn)⟩
end Go.RX
