/- Executor. -/
import Derived.Test.YtphemenngjkfbaaRxC
open Go.Region renaming binds → aex
open List renaming range → aec
open Nat renaming blt → ad6
namespace Go.RX
def cz.add(a b:cz):cz:=⟨a.b+b.b,a.v+b.v,a.i+b.i,a.a+b.a,a.bo+b.bo,a.p+b.p,a.r+b.r⟩
inductive eu where
 | e (a b:E)
 | a (n:E) (a b:E)
 | af (a b:E)
 | b (a b:BE)
 | v (i j:Nat)
 | p (i j:Nat)
 | bl (i j:Nat)
 | rc (i j:Nat)
 deriving Repr
inductive F where
 | fail (s:String) (slot:Nat:=0)
 | vc (b:BE) (r:F)
 | fork (c:BE) (t e:F)
 | ret (v:SV) (hp:List Ck)
 | wD (r:F)
 | xS (r:F)
 | cg (r:F)
 | uA (outer:Bool) (r:F)
 | call (f:Nat) (args:List SV) (use:List Ck) (inc:cz) (val:SV) (new:List Ck) (r:F)
 | ext (f:Nat) (args:List SV) (use:List Ck) (inc:cz) (val:SV) (new:List Ck) (r:F)
 | loop (up:Nat) (inc:cz) (eqs:List eu) (body:F)
 | back (up:Nat) (c0:cz) (inc:cz) (eqs:List eu)
 | join (up:Nat) (inc:cz) (body r:F)
 | meet (up:Nat) (c0:cz) (inc:cz) (eqs:List eu)
 | ghost (use:List Ck) (inc:cz) (eqs:List eu) (new:List Ck) (r:F)
 | both (a b:F)
 deriving Inhabited
def My:List F→F
 | []=> .fail "none"
 | [x]=>x
 | x::y::r=> .both x (My (y::r))
def E.sc(c:cz):E→Bool
 | .lit _=>true
 | .var i=>ad6 i c.i
 | .aw i=>ad6 i c.a
 | .iX a i=>a.sc c&&i.sc c
 | .bin _ _ a b=>a.sc c&&b.sc c
 | .wrap _ a=>a.sc c
 | .cV a i v=>a.sc c&&i.sc c&&v.sc c
 | .shift a o=>a.sc c&&o.sc c
 | .BD a o n b=>a.sc c&&o.sc c&&n.sc c&&b.sc c
 | .kc _ a=>a.sc c
 | .s5 b=>ad6 b c.b
 | .pk _=>true
 | .Pl a i=>a.sc c&&i.sc c
 | .pF a i s=>a.sc c&&i.sc c&&s.sc c
 | .Q6 s=>s.sc c
def BE.sc(c:cz):BE→Bool
 | .lit _=>true
 | .var i=>ad6 i c.bo
 | .eq a b=>a.sc c&&b.sc c
 | .lt a b=>a.sc c&&b.sc c
 | .le a b=>a.sc c&&b.sc c
 | .nz a=>a.sc c
 | .Q7 _ a b=>a.sc c&&b.sc c
 | .not a=>a.sc c
 | .and a b=>a.sc c&&b.sc c
 | .or a b=>a.sc c&&b.sc c
 | .ite x t e=>x.sc c&&t.sc c&&e.sc c
 | .seq a b=>a.sc c&&b.sc c
def Cut.sc(c:cz)(k:Cut):Bool:=k.lo.sc c&&k.hi.sc c&&(match k.mx with | some m=>m.sc c | none=>true)
mutual
def SV.sc(c:cz):SV→Bool
 | .int _ e=>e.sc c
 | .bool b=>b.sc c
 | .ptr b _=>ad6 b c.b
 | .pq b i _ _=>ad6 b c.b&&i.sc c
 | .pv v i _ _=>ad6 v c.v&&i.sc c
 | .sl b i _ n m=>ad6 b c.b&&i.sc c&&n.sc c&&m.sc c
 | .vv i=>ad6 i c.v
 | .fn _ jB=>SV.pw c jB
 | .agg cs=>SV.pw c cs
 | .aX _ _ a=>a.sc c
 | .j7 vs=>SV.pw c vs
 | .opt b v=>b.sc c&&v.sc c
 | .C8 _ i=>i.sc c
 | .Jp l=>ad6 l c.b
 | .mp b=>ad6 b c.b
 | .iC v cs _=>ad6 v c.v&&cs.all (Cut.sc c)
 | .cO e=>e.sc c
 | .Lv e=>e.sc c
 | .kE e=>e.sc c
 | .Ge b v=>b.sc c&&ad6 v c.v
 | .LV _ _ e=>e.sc c
 | _=>true
def SV.pw(c:cz):List SV→Bool
 | []=>true
 | v::r=>v.sc c&&SV.pw c r
end
def CK.sc(c:cz):CK→Bool
 | .Gk l=>l.all fun n=>ad6 n c.v
 | .pt i v=>i.sc c&&ad6 v c.v
 | _=>true
def bV.sc(c:cz)(k:bV):Bool:=k.a.sc c&&k.ck.sc c
def Ck.sc(c:cz):Ck→Bool
 | .emp=>true
 | .row b _ cs=>ad6 b c.b&&SV.pw c cs
 | .cc _ v _ _ n aA=>ad6 v c.v&&n.sc c&&aA.all (bV.sc c)
 | .abs i=>ad6 i c.p
 | .kI l r _ _=>ad6 l c.b&&ad6 r c.r
 | .JT b=>ad6 b c.b
 | .rj b=>ad6 b c.b
 | .map b _ _ _ zero has aA=>ad6 b c.b&&SV.pw c zero&&has.sc c&&aA.all (bV.sc c)
 | .ni b _ _ _ zero es=>ad6 b c.b&&SV.pw c zero&&es.all fun e=>SV.pw c e.2
 | .H7 b _ _ n a=>ad6 b c.b&&n.sc c&&a.sc c
 | .Ly b _ _=>ad6 b c.b
def kW(c:cz)(fr:List (Nat×SV)):Bool:=fr.all fun x=>x.2.sc c
def Am.sc(c:cz):Am→Bool
 | .none=>true
 | .new (.row _ _ cs)=>SV.pw c cs
 | .new (.map _ _ _ _ zero has aA)=>SV.pw c zero&&has.sc c&&aA.all (bV.sc c)
 | .new (.ni _ _ _ _ zero es)=>SV.pw c zero&&es.all fun e=>SV.pw c e.2
 | .new (.H7 _ _ _ n a)=>n.sc c&&a.sc c
 | .new (.Ly _ _ _)=>true
 | .set _ ck=>ck.sc c
 | .app _ (.cc _ _ _ _ n aA)=>n.sc c&&aA.all (bV.sc c)
 | .own (.cc _ _ _ _ n aA)=>n.sc c&&aA.all (bV.sc c)
 | .DL (.cc _ _ _ _ n aA)=>n.sc c&&aA.all (bV.sc c)
 | _=>false
def Am.grow(c:cz):Am→cz
 | .new _=>{c with b:=c.b+1}
 | .app .. =>{c with v:=c.v+1}
 | .own .. =>{c with v:=c.v+1}
 | .DL .. =>{c with v:=c.v+1}
 | _=>c
def gU.sc(c:cz)(r:gU):Bool:=r.val.sc (r.gJ.grow c)&&r.vcs.all (BE.sc c)&&r.gJ.sc c
inductive MK where
 | one (b:Nat)
 | many (b:Nat)
 deriving DecidableEq,Repr
def MK.sc(c:cz):MK→Bool
 | .one b=>ad6 b c.b
 | .many b=>ad6 b c.b
def lb:List MK→List MK→Option (List eu)
 | [],[]=>some []
 | .one b::r,.one b'::r'=>(lb r r').map (.bl b b':: ·)
 | .many b::r,.many b'::r'=>(lb r r').map (.bl b b':: ·)
 | _,_=>none
structure NT where
 n:Nat:=0
 ds:List MK:=[]
 deriving DecidableEq,Repr,Inhabited
structure St where
 fn:Nat:=0
 fr:List (Nat×SV):=[]
 hp:List Ck:=[]
 aQ:cz:={}
 known:List BE:=[]
 nt:NT:={}
 deriving Inhabited
def look(fr:List (Nat×SV))(s:Nat):Option SV:=
 match fr with
 | []=>none
 | (t,v)::r=>if t==s then some v else look r s
def St.put(st:St)(d:Option Nat)(v:SV):St:=
 match d with
 | some d=>{st with fr:=(d,v)::st.fr.filter fun x=> !(x.1==d)}
 | none=>st
structure bh where
 use:List SV→List Ck→List Nat
 inc:cz:={}
 val:cz→SV
 new:cz→List Ck→List Ck
 valOf:Option (List SV→List Ck→SV):=none
def q9(ca:bh)(az:List SV)(hp:List Ck)(c:cz):SV:=
 match ca.valOf with
 | some g=>g az hp
 | none=>ca.val c
inductive rQ where
 | slot (s t:Nat)
 | cell (i j t:Nat)
 | cut (s:Nat) (md:Bool)
 | uh (i j:Nat) (md:Bool)
 | marks
 | mark
 | swap (s i:Nat)
 | own (s t:Nat)
structure mP where
 pre:List rQ:=[]
 inc:cz:={}
 aV:cz→List (Nat×SV)
 hp:cz→List Ck→List Ck:=fun _ h=>h
 back:List rQ:=[]
 ds:cz→List MK→List MK:=fun _ d=>d
structure eg where
 split:Option BE:=none
 pick:Option (List Nat):=none
 use:List Nat:=[]
 inc:cz:={}
 aV:List (Nat×SV):=[]
 new:List Ck:=[]
structure xg where
 pre:List rQ:=[]
 inc:cz:={}
 aV:cz→List (Nat×SV)
 hp:cz→List Ck→List Ck:=fun _ h=>h
 ds:cz→List MK→List MK:=fun _ d=>d
 gh:St→Option eg:=fun _=>none
inductive KI where
 | gh (g:St→Option eg)
 | code (c:Code)
 | ops (all:Array Oper) (rest:List Oper)
 | sn (all:Array Oper) (pm:List Nat) (rest:List Nat) (done:Nat) (log:List (Nat×List Nat))
 | Mv (all:Array Oper) (pm:List Nat) (e:Nat) (rest:List Nat) (done:Nat) (log:List (Nat×List Nat)) (fn:Nat) (nt:NT) (fr:List (Nat×SV)) (hp:List Ck) (aQ:cz)
 | s5 (id:Nat)
 | again (body:Code)
 | loop (up:Nat) (nt:NT) (c0:cz) (inc:cz) (fr:List (Nat×SV)) (hp:List Ck) (bk:List rQ)
 | jn (id:Option Nat) (up:Nat) (nt:NT) (c0:cz) (inc:cz) (fr:List (Nat×SV)) (hp:List Ck) (pre:List rQ)
 | call (fn:Nat) (nt:NT) (fr:List (Nat×SV)) (dst:Option Nat) (callee:Func)
 | rf (l r:Nat) (fn:Nat) (nt:NT) (fr:List (Nat×SV)) (ps:Array Tmp) (assign body:Code) (callee:Func)
 | begin (l:Nat)
 | round (l:Nat) (fn:Nat) (nt:NT) (fr:List (Nat×SV)) (dst:Option Nat)
 | lO (l:Nat) (j:Jump) (fn:Nat) (nt:NT) (fr:List (Nat×SV)) (dst:Option Nat)
 | top (callee:Func)
 deriving Inhabited
structure V3 where
 val:SV
 vcs:List BE:=[]
 use:List Nat:=[]
 new:List Ck:=[]
structure Ctx where
 T:List TI
 FT:List (Nat×Func)
 calls:Nat→Nat→Option bh:=fun _ _=>none
 loops:Nat→Nat→Option mP:=fun _ _=>none
 qj:Nat→Nat→Option xg:=fun _ _=>none
 qh:Nat→Nat→Option (St→Option eg):=fun _ _=>none
 de:Nat→Option bh:=fun _=>none
 pure:Nat→Option (List SV→List Ck→Option V3):=fun _=>none
def CM(C:Ctx)(f:Nat)(az:List SV)(hp:List Ck):Option V3:=
 match C.pure f with
 | some g=>g az hp
 | none=>none
def RI(C:Ctx)(fn d f:Nat):Option bh:=
 match C.calls fn d with
 | some ca=>some ca
 | none=>C.de f
def lp:List Cut→List Cut→Option (List eu)
 | [],[]=>some []
 | a::r,b::r'=>
  match a.mx,b.mx,lp r r' with
  | none,none,some x=>some (.e a.lo b.lo:: .e a.hi b.hi::x)
  | some m,some m',some x=>some (.e a.lo b.lo:: .e a.hi b.hi:: .e m m'::x)
  | _,_,_=>none
 | _,_=>none
mutual
def tE:SV→SV→Option (List eu)
 | .int k a,.int k' b=>if k=k' then some [.e a b]else none
 | .bool a,.bool b=>some [.b a b]
 | .dT,.dT=>some []
 | .bT,.bT=>some []
 | .oh,.oh=>some []
 | .s6,.s6=>some []
 | .hU,.hU=>some []
 | .undef,.undef=>some []
 | .ptr b c,.ptr b' c'=>if c=c' then some [.bl b b']else none
 | .pq b i s c,.pq b' i' s' c'=>if c=c'∧s=s' then some [.bl b b',.e i i']else none
 | .pv b i s c,.pv b' i' s' c'=>if c=c'∧s=s' then some [.v b b',.e i i']else none
 | .sl b i s n m,.sl b' i' s' n' m'=>if s=s' then some [.bl b b',.e i i',.e n n',.e m m']else none
 | .vv i,.vv j=>some [.v i j]
 | .str l,.str l'=>if l=l' then some []else none
 | .kE s,.kE s'=>some [.af s s']
 | .Ge c v,.Ge c' v'=>some [.b c c',.v v v']
 | .LV t k e,.LV t' k' e'=>if t=t'∧k=k' then some [.e e e']else none
 | .kE s,.str l=>some [.af s (iD l)]
 | .fn f cs,.fn f' uC=>if f=f' then fV cs uC else none
 | .agg cs,.agg uC=>fV cs uC
 | .aX k n a,.aX k' n' b=>if k=k'∧n=n' then some [.a (.lit n) a b]else none
 | .j7 cs,.j7 uC=>fV cs uC
 | .opt c v,.opt c' v'=>(tE v v').map (.b c c':: ·)
 | .Jp l,.Jp l'=>some [.bl l l']
 | .mp l,.mp l'=>some [.bl l l']
 | .cO e,.cO e'=>some [.e e e']
 | .cO e,.ptr b o=>if o=0 then some [.e e (.s5 b)]else none
 | .cO e,.dT=>some [.e e (.lit 0)]
 | .ptr b o,.cO e=>if o=0 then some [.e (.s5 b) e]else none
 | .Lv e,.Lv e'=>some [.e e e']
 | .Lv e,.bT=>some [.e e (.lit 0)]
 | .iC v cs s,.iC v' uC s'=>if s=s' then(lp cs uC).map (.v v v':: ·)else none
 | _,_=>none
def fV:List SV→List SV→Option (List eu)
 | [],[]=>some []
 | a::r,b::r'=>match tE a b,fV r r' with
  | some x,some y=>some (x++y)
  | _,_=>none
 | _,_=>none
end
def iN(n:E):List bV→List bV→Option (List eu)
 | [],[]=>some []
 | a::r,b::r'=>
  match a.ck,b.ck with
  | .Gk l,.Gk l'=>if l.length=l'.length∧a.w=b.w then(iN n r r').map ((l.zip l').map (fun x=>eu.v x.1 x.2)++ ·)else none
  | .pt _ _,_=>none
  | _,_=>if a.ck=b.ck∧a.w=b.w then(iN n r r').map ((if a.ck= .str then .af a.a b.a else .a (pI n (.lit a.w)) a.a b.a):: ·)
   else if a.ck= .cv∧b.ck= .bT∧a.w=b.w then(iN n r r').map (.a (pI n (.lit a.w)) a.a (.lit 0):: ·)else none
 | _,_=>none
def iH:List bV→List bV→Option (List eu)
 | [],[]=>some []
 | a::r,b::r'=>
  match a.ck,b.ck with
  | .Gk _,_=>none
  | .pt i v,.pt j u=>if a.w=b.w then(iH r r').map (fun l=> .e i j:: .v v u:: .af a.a b.a::l)else none
  | .pt _ _,_=>none
  | _,_=>if a.ck=b.ck∧a.w=b.w then(iH r r').map (.af a.a b.a:: ·)else none
 | _,_=>none
def sm:Nat→List SV→List SV→List SV
 | 0,_,act=>act
 | f+1,.int _ _::p,.aX k (m+1) a::r=> .int k (gv a (.lit 0))::sm f p (if m=0 then r else .aX k m (jI a (.lit 1))::r)
 | f+1,.aX k n _::p,x::r=>
  if SV.width x=n then x::sm f p r else
  match jc 0 n (x::r),fe n (x::r)with
  | some c,some d=>
   match rowOf c with
   | some (kl,e)=>if kl=List.replicate n k then .aX k n e::sm f p d else x::r
   | none=>x::r
  | _,_=>x::r
 | f+1,_::p,x::r=>x::sm f p r
 | _+1,_,act=>act
def qL:List (Nat×List SV)→List (Nat×List SV)→Option (List eu)
 | [],[]=>some []
 | (i,v)::r,(j,u)::r'=>if i=j then(match fV v u,qL r r' with
  | some x,some y=>some (x++y)
  | _,_=>none)else none
 | _,_=>none
def w7:Ck→Ck→Option (List eu)
 | .emp,.emp=>some []
 | .row b w cs,.row b' w' uC=>if w=w' then(fV cs (sm 200 cs uC)).map (.bl b b':: ·)else none
 | .cc md v t s n aA,.cc md' v' t' s' n' aR=>if md=md'∧t=t'∧s=s' then(iN n aA aR).map fun r=> .v v v':: .e n n'::r else none
 | .abs i,.abs j=>some [.p i j]
 | .kI l r s j,.kI l' r' s' j'=>if s=s'∧j=j' then some [.bl l l',.rc r r']else none
 | .JT b,.JT b'=>some [.bl b b']
 | .rj b,.rj b'=>some [.bl b b']
 | .map b kl ka va z has aA,.map b' Lz ZI ZJ z' Gy aR=>
  if kl=Lz∧ka=ZI∧va=ZJ then
   match fV z z',iH aA aR with
   | some x,some y=>some (.bl b b':: .af has Gy::(x++y))
   | _,_=>none
  else none
 | .ni b kl ka va z es,.ni b' Lz ZI ZJ z' U5=>
  if kl=Lz∧ka=ZI∧va=ZJ then
   match fV z z',qL es U5 with
   | some x,some y=>some (.bl b b'::(x++y))
   | _,_=>none
  else none
 | .H7 b t e n a,.H7 b' t' e' n' a'=>if t=t'∧e=e' then some [.bl b b',.e n n',.a n a a']else none
 | .Ly b l p,.Ly b' l' p'=>if l=l'∧p=p' then some [.bl b b']else none
 | _,_=>none
def mM:List Ck→List Ck→Option (List eu)
 | [],_=>some []
 | a::r,b::r'=>match w7 a b,mM r r' with
  | some x,some y=>some (x++y)
  | _,_=>none
 | _::_,[]=>none
def mL(pat act:List (Nat×SV)):Option (List eu):=
 match pat with
 | []=>some []
 | (s,v)::r=>match look act s,mL r act with
  | some v',some y=>(tE v v').map (· ++y)
  | _,_=>none
def eu.trivial(c:cz):eu→Bool
 | .e x y=>x==y&&x.sc c
 | .a n x y=>x==y&&x.sc c&&n.sc c
 | .b x y=>x==y&&x.sc c
 | .af x y=>x==y&&x.sc c
 | .v i j=>i==j&&ad6 i c.v
 | .p i j=>i==j&&ad6 i c.p
 | .bl i j=>i==j&&ad6 i c.b
 | .rc i j=>i==j&&ad6 i c.r
def writes:Code→List Nat
 | .region _ ops _=>ops.toList.filterMap (·.dst)
 | .seq a b=>writes a++writes b
 | .cond _ a b=>writes a++writes b
 | .block _ b=>writes b
 | .loop b=>writes b
 | .scope b=>writes b
 | .rangeFunc _ ps a b=>ps.toList++writes a++writes b
 | _=>[]
def dc(id:Nat):List KI→Option (List KI)
 | .s5 i::k=>if i==id then some k else dc id k
 | .again _::k=>dc id k
 | .code _::k=>dc id k
 | .ops .. ::k=>dc id k
 | .loop .. ::k=>dc id k
 | .gh _::k=>dc id k
 | .jn i up nt c0 inc fr hp pre::k=>if i==some id then some (.jn i up nt c0 inc fr hp pre::k)else dc id k
 | .round l fn nt fr d::k=>some (.lO l (.exit id) fn nt fr d::k)
 | _=>none
def gj:List KI→Option (List KI)
 | .call fn nt fr d f::k=>some (.call fn nt fr d f::k)
 | .top f::k=>some (.top f::k)
 | .rf l r fn nt fr ps x y f::k=>some (.rf l r fn nt fr ps x y f::k)
 | .round l fn nt fr d::k=>some (.lO l .ret fn nt fr d::k)
 | .s5 _::k=>gj k
 | .again _::k=>gj k
 | .code _::k=>gj k
 | .ops .. ::k=>gj k
 | .loop .. ::k=>gj k
 | .jn .. ::k=>gj k
 | .gh _::k=>gj k
 | _=>none
def zD:List KI→Option Nat
 | []=>none
 | .call .. ::_=>none
 | .top _::_=>none
 | .rf .. ::_=>none
 | .begin l::_=>some l
 | .round l .. ::_=>some l
 | _::k=>zD k
def nl:List KI→Nat
 | []=>0
 | .loop .. ::k=>nl k+1
 | .jn .. ::k=>nl k+1
 | _::k=>nl k
def CN(T:List TI)(st:St):ResultVar→Option SV
 | .tmp t=>look st.fr t
 | .cell a t=>match aS T t,look st.fr a with
  | some ti,some x=>match wZ st.hp ti.k.agg ti.size x with
   | some r=>if r.vcs.isEmpty then some r.val else none
   | none=>none
  | _,_=>none
def zE(T:List TI)(st:St)(fn:Func):Option SV:=
 match jg (fn.results.toList.map (CN T st))with
 | some [v]=>some v
 | some vs=>some (.j7 vs)
 | none=>none
def ss:Env:={}
def BE.sure(b:BE):Bool:=b.sc {}&&b.den ss
def more(vcs known:List BE):List BE:=vcs.filter (fun b=> !b.sure)++known
def Uo(g:Option BE)(b:BE):BE:=
 match g with
 | some c=>Xd (iE c) b
 | none=>b
def qu(g:Option BE):List BE→List BE→F→F
 | [],_,r=>r
 | b::bs,known,r=>if Uo g b== .lit true||known.contains (Uo g b)||(Uo g b).sure then qu g bs known r else .vc (Uo g b) (qu g bs known r)
def ns(ρ:Env):Option BE→Bool
 | some c=>c.den ρ
 | none=>true
def guardOf(all:Array Oper)(fr:List (Nat×SV))(o:Oper):Option (Option BE):=
 match o.guard with
 | none=>some none
 | some (j,want)=>
  match all[j]? with
  | some oj=>match oj.dst with
   | some d=>match look fr d with
    | some (.bool b)=>some (some (if want then b else iE b))
    | some (.opt c (.bool b))=>some (some (z4 c (if want then b else iE b)))
    | some .undef=>some (some (.lit false))
    | some (.opt _ .undef)=>some (some (.lit false))
    | _=>none
   | none=>none
  | none=>none
def db(st:St)(e:Am):St:=
 match e with
 | .none=>st
 | .new ck=>{st with hp:=st.hp++[ck],aQ:={st.aQ with b:=st.aQ.b+1}}
 | .set i ck=>{st with hp:=st.hp.set i ck}
 | .app i ck=>{st with hp:=st.hp.set i ck,aQ:={st.aQ with v:=st.aQ.v+1}}
 | .own ck=>{st with hp:=st.hp++[ck],aQ:={st.aQ with v:=st.aQ.v+1}}
 | .DL ck=>{st with hp:=st.hp++[ck],aQ:={st.aQ with v:=st.aQ.v+1}}
def ko{α:Type}(e:α)(hp:List α):List Nat→List α→List α
 | i::r,c::cs=>ko e (hp.set i c) r cs
 | i::r,[]=>ko e (hp.set i e) r []
 | [],cs=>hp++cs
def fq(hp:List Ck)(use:List Nat)(new:List Ck):List Ck:=ko .emp hp use new
def Ja(T:List TI)(st:St)(t:Nat):Option St:=
 match aS T t,vo T 30 t with
 | some ti,some aA=>if aA.all (bV.sc st.aQ)then some {st with hp:=st.hp++[.cc true st.aQ.v t ti.size (.lit 0) aA],aQ:={st.aQ with v:=st.aQ.v+1}}else none
 | _,_=>none
inductive zF where
 | nil
 | cut (vcs:List BE)
 | s5
 | same
def zG(st:St)(x:SV)(md:Bool):Option (St×zF):=
 match gf st.hp x with
 | some r=>
  match gZ r.p.lo r.aA with
  | some aA=>
   if r.s=bX r.aA∧(md=true→r.md=true)∧r.p.len.sc st.aQ=true∧aA.all (bV.sc st.aQ)=true then
    some ({st with hp:=st.hp.set r.j (.cc md st.aQ.v r.t r.s r.p.len aA),aQ:={st.aQ with v:=st.aQ.v+1}},.cut (r.vcs++dG (.lit 0) r.p.len))
   else none
  | none=>none
 | none=>none
def OG(st:St)(x:SV)(t:Nat):Option (St×zF):=
 match x with
 | .sl b i s n m=>
  match findAt st.hp b,eU i,eU n with
  | some (j,.row _ true cs),some 0,some q=>
   match rowOf cs with
   | some (ki::kl,a)=>
    if n=m∧s=1∧kl.length+1=q∧ki::kl=List.replicate q ki∧q≤140737488355328∧a.sc st.aQ=true then
     some ({st with hp:=st.hp.set j (.cc true st.aQ.v t 1 (.lit (q:Int)) [⟨.int ki,1,a⟩]),aQ:={st.aQ with v:=st.aQ.v+1}},.cut [])
    else none
   | _=>none
  | _,_,_=>none
 | _=>none
def Ck.Bz(b:Nat):Ck→Bool
 | .JT b'=>b==b'
 | _=>false
def Ck.vu(b:Nat):Ck→Bool
 | .rj b'=>b==b'
 | _=>false
def swapAt(hp:List Ck)(i j:Nat):List Ck:=
 match hp[i]?,hp[j]? with
 | some d,some c=>(hp.set i c).set j d
 | _,_=>hp
def TP(st:St)(s:Nat):Option Nat:=
 match look st.fr s with
 | some (.ptr b _)=>(findAt st.hp b).map (·.1)
 | some (.vv v)=>(dN st.hp v).map (·.1)
 | some (.sl b _ _ _ _)=>(findAt st.hp b).map (·.1)
 | _=>none
def dK(T:List TI)(st:St)(x:rQ):Option (St×zF):=
 match x with
 | .slot s t=>match look st.fr s with
  | some .bT=>(Ja T st t).map fun df=>(df.put (some s) (.vv st.aQ.v),.nil)
  | _=>none
 | .cell i j t=>match st.hp[i]? with
  | some (.row b w cs)=>match cs[j]? with
   | some .bT=>(Ja T st t).map fun df=>({df with hp:=df.hp.set i (.row b w (cs.set j (.vv st.aQ.v)))},.nil)
   | _=>none
  | _=>none
 | .cut s md=>match look st.fr s with
  | some x=>(zG st x md).map fun y=>(y.1.put (some s) (.vv st.aQ.v),y.2)
  | none=>none
 | .uh i j md=>match st.hp[i]? with
  | some (.row b w cs)=>match cs[j]? with
   | some x=>match zG st x md with
    | some (df,wr)=>match df.hp[i]? with
     | some (.row b' w' _)=>if b'=b∧w'=w then some ({df with hp:=df.hp.set i (.row b w (cs.set j (.vv st.aQ.v)))},wr)else none
     | _=>none
    | none=>none
   | none=>none
  | _=>none
 | .marks=>some ({st with nt:={st.nt with ds:= .many st.aQ.b::st.nt.ds},hp:=st.hp++[.rj st.aQ.b],aQ:={st.aQ with b:=st.aQ.b+1}},.s5)
 | .mark=>match st.nt.ds with
  | .one b:: .many c::ds=>match st.hp.findIdx? (Ck.Bz b),st.hp.findIdx? (Ck.vu c)with
   | some i,some j=>some ({st with nt:={st.nt with ds:= .many st.aQ.b::ds},hp:=(st.hp.set i .emp).set j (.rj st.aQ.b),aQ:={st.aQ with b:=st.aQ.b+1}},.s5)
   | _,_=>none
  | .many _::_=>some (st,.same)
  | _=>none
 | .own s t=>match look st.fr s with
  | some x=>(OG st x t).map fun y=>(y.1.put (some s) (.vv st.aQ.v),y.2)
  | none=>none
 | .swap s i=>match TP st s with
  | some j=>some ({st with hp:=swapAt st.hp i j},.same)
  | none=>none
def sR(T:List TI):St→List rQ→Option (St×List zF)
 | st,[]=>some (st,[])
 | st,x::r=>match dK T st x with
  | some (df,y)=>match sR T df r with
   | some (s2,k)=>some (s2,y::k)
   | none=>none
  | none=>none
def ZK:List BE→F→F
 | [],f=>f
 | b::r,f=> .vc b (ZK r f)
def fO:List zF→F→F
 | [],f=>f
 | .nil::r,f=> .cg (fO r f)
 | .s5::r,f=> .wD (fO r f)
 | .same::r,f=>fO r f
 | .cut vcs::r,f=>ZK vcs (.xS (fO r f))
def zH(look:Nat→Option SV)(o:Oper):Option (Nat×List SV):=
 match o.op with
 | .call {callee:= .value f,args,.. }=>
  match iG look f,jg (args.toList.map (iG look))with
  | some (.fn f jB),some az=>some (f,az++jB)
  | _,_=>none
 | _=>none
def eo(n:Nat):List SV→List (Nat×SV)
 | []=>[]
 | v::r=>(n,v)::eo (n+1) r
def q_(known:List BE)(b:BE):BE:=
 match b with
 | .lit x=> .lit x
 | b=>if b.sc {}then .lit (b.den ss)else if known.contains b then .lit true else if known.contains (iE b)then .lit false else b
def SV.HL(c:BE):SV→SV
 | .opt c' v=>
  if c'=c then v else
  match c' with
  | .and a b=>if a=c then .opt b v else .opt (.and a b) v
  | c'=> .opt c' v
 | .bool b=>if b=c then .bool (.lit true)else .bool b
 | v=>v
def SV.ru(c:BE):SV→SV
 | .opt c' v=>
  if c'=c then .undef else
  match c' with
  | .and a b=>if a=c then .undef else .opt (.and a b) v
  | c'=> .opt c' v
 | .bool b=>if b=c then .bool (.lit false)else .bool b
 | v=>v
def St.HL(c:BE)(st:St):St:={st with fr:=st.fr.map fun x=>(x.1,x.2.HL c),known:=c::st.known}
def St.ru(c:BE)(st:St):St:={st with fr:=st.fr.map fun x=>(x.1,x.2.ru c),known:=iE c::st.known}
def under(c:BE)(lk:Nat→Option SV)(s:Nat):Option SV:=
 match lk s with
 | some (.opt c' v)=>
  if c'=c then some v else
  match c' with
  | .and a b=>if a=c then some (.opt b v)else some (.opt (.and a b) v)
  | c'=>some (.opt c' v)
 | x=>x
def HM(fr:List (Nat×SV))(known:List BE)(x:Operand):Option BE:=
 match iG (look fr) x with
 | some (.bool b)=>some (q_ known b)
 | _=>none
def qN(all:Array Oper)(fr:List (Nat×SV))(known:List BE)(o:Oper):Option (Option BE):=
 match guardOf all fr o with
 | some (some b)=>match q_ known b with
  | .lit true=>some none
  | b=>some (some b)
 | x=>x
def SV.fix(known:List BE):SV→SV
 | .opt c v=>match q_ known c with
  | .lit true=>v
  | .lit false=> .undef
  | _=> .opt c v
 | .bool b=> .bool (q_ known b)
 | v=>v
def SV.TQ(c:BE)(known:List BE):SV→SV
 | .bool b=>if known.contains (iE (z4 c b))then .bool (.lit false)else .bool b
 | .opt b v=>if known.contains (iE (z4 c b))then .undef else .opt b v
 | v=>v
def AX(g:Option BE)(known:List BE)(fr:List (Nat×SV))(s:Nat):Option SV:=
 match g with
 | some c=>(under c (look fr) s).map fun v=>(v.fix known).TQ c known
 | none=>(look fr s).map (SV.fix known)
def Op.quiet:Op→Bool
 | .move _ | .assign _ | .pick .. | .build .. | .load .. | .nilCheck _ | .binOp .. | .unOp .. | .sliceToArrayPointer .. | .fieldAddr .. | .field .. | .indexAddr .. | .index .. | .extract .. | .makeFunc .. | .makeInterface .. | .slice .. | .lookup .. =>true
 | .convert a b _=> !(a==b)
 | .call {callee:= .builtin .len,.. }=>true
 | .call {callee:= .builtin .max,.. }=>true
 | .call {callee:= .builtin .min,.. }=>true
 | _=>false
def lR(all:Array Oper)(done:Nat)(i:Nat):Bool:=
 match all[i]? with
 | some o=>o.after.toList.all fun e=> !aex .any e||done.testBit e.on
 | none=>false
def OH(all:Array Oper):List Nat→List Nat→List Nat
 | [],acc=>acc
 | i::r,acc=>
  match all[i]? with
  | some o=>OH all r (acc++[o.after.toList.foldl (fun s e=>if aex .any e&&ad6 e.on i then s|||(1 <<< e.on)|||acc.getD e.on 0 else s) 0])
  | none=>acc
def slotsOf(all:Array Oper)(o:Oper):List Nat:=
 o.op.operands.toList.filterMap (fun | .tmp t=>some t | _=>none)++
  (match o.guard with | some (j,_)=>(match all[j]? with | some oj=>oj.dst.toList | none=>[]) | none=>[])
def kq(all:Array Oper)(pm:List Nat):Bool:=
 (aec all.size).all fun i=>
  match all[i]? with
  | some oi=>
   match oi.dst with
   | some d=>
    (aec all.size).all fun j=>
     match all[j]? with
     | some oj=>i==j|| !((slotsOf all oj).contains d||oj.dst==some d)||(pm.getD j 0).testBit i||(pm.getD i 0).testBit j
     | none=>true
   | none=>true
  | none=>true
def yE(all:Array Oper)(pm:List Nat):Bool:=
 (aec all.size).all fun p=>
  match all[p]? with
  | some o=>
   (o.after.toList.all fun e=> !aex .any e||ad6 e.on p)&&
   ((aec all.size).all fun q=> !(pm.getD p 0).testBit q||o.after.toList.any fun e=>aex .any e&&(q==e.on||(pm.getD e.on 0).testBit q))
  | none=>true
def BZ(all:Array Oper)(i:Nat):Bool:=
 match all[i]? with
 | some o=>Op.quiet o.op
 | none=>false
def restrict(fr:List (Nat×SV))(aV:List Nat):List (Nat×SV):=fr.filter fun x=>aV.contains x.1
def kept(c:cz)(hp jE:List Ck)(rd:List Nat):Bool:=
 rd.all fun j=>
  match hp[j]?,jE[j]? with
  | some a,some b=>(match w7 a b with | some l=>l.all (eu.trivial c) | none=>false)
  | none,_=>true
  | _,_=>false
def fv(st:St)(fn:Nat)(nt:NT)(fr:List (Nat×SV)):St:={st with fn:=fn,nt:=nt,fr:=fr}
def qc(st:St)(d:Option Nat):Bool:=
 match d with
 | some d=>ad6 d st.nt.n
 | none=>true
def oK(C:Ctx)(g:Option BE)(st:St)(o:Oper):Option gU:=
 match dB C.T (AX g st.known st.fr) st.hp st.aQ.b st.aQ.v o with
 | some res=>if res.sc st.aQ then some res else none
 | none=>none
def D3(C:Ctx)(g:Option BE)(st:St)(o:Oper):Option gU:=
 match g with
 | some (.lit false)=>some {val:= .undef}
 | g=>oK C g st o
def gsc(c:cz):Option BE→Bool
 | some b=>b.sc c
 | none=>true
def J1:Option BE→SV→SV
 | some c,v=> .opt c v
 | none,v=>v
def BX:Option BE→List BE→List BE→List BE
 | some _,_,k=>k
 | none,vcs,k=>more vcs k
def leave:List Ck→List MK→Option (List Ck)
 | hp,[]=>some hp
 | hp,.one d::ds=>
  match hp.findIdx? (Ck.Bz d)with
  | some i=>leave (hp.set i .emp) ds
  | none=>none
 | hp,.many d::ds=>
  match hp.findIdx? (Ck.vu d)with
  | some i=>leave (hp.set i .emp) ds
  | none=>none
def mO(st:St):Option St:=(leave st.hp st.nt.ds).map fun hp=>{st with hp:=hp}
def rb(l:Nat):List KI→Option (Nat×Nat×NT×List (Nat×SV)×Array Tmp×Code×Code)
 | []=>none
 | .rf l' r fn nt fr ps x y _::k=>if l'==l then some (r,fn,nt,fr,ps,x,y)else rb l k
 | _::k=>rb l k
def Ck.isRec(l:Nat):Ck→Bool
 | .kI l' _ _ _=>l==l'
 | _=>false
def recAt(hp:List Ck)(l:Nat):Option (Nat×Nat×RS×Jump):=
 match hp.findIdx? (Ck.isRec l)with
 | some i=>
  match hp[i]? with
  | some (.kI _ r s j)=>some (i,r,s,j)
  | _=>none
 | none=>none
def kK(st:St):List (Nat×SV)→Option St
 | []=>some st
 | (d,v)::r=>if qc st (some d)&&v.sc st.aQ then kK (st.put (some d) v) r else none
def OI(look:Nat→Option SV)(o:Oper):Option (Nat×List SV):=
 match o.op with
 | .call {callee:= .value f,args,.. }=>
  match iG look f,jg (args.toList.map (iG look))with
  | some (.Jp l),some az=>some (l,az)
  | _,_=>none
 | _=>none
def run(C:Ctx):Nat→List KI→St→F
 | 0,_,_=> .fail "fuel"
 | _+1,[],_=> .fail "end"
 | n+1,.s5 _::k,st=>run C n k st
 | n+1,.gh g::k,st=>
  match g st with
  | none=>run C n k st
  | some s=>
   match s.split with
   | some b=>if b.sc st.aQ then .fork b (run C n (.gh g::k) {st with known:=b::st.known}) (run C n (.gh g::k) {st with known:=iE b::st.known})else .fail "scope"
   | none=>
   match s.pick with
   | some idx=>if idx.all (fun i=>ad6 i st.hp.length)&&decide idx.Nodup then run C n k {st with hp:=idx.map fun i=>st.hp.getD i .emp}else .fail "pick"
   | none=>
   let mE:=st.aQ.add s.inc
   match mL s.aV st.fr with
   | some eqs=>
    if kW mE s.aV&&s.new.all (Ck.sc mE)&&s.use.all (fun i=>ad6 i st.hp.length)&&decide s.use.Nodup then
     .ghost (s.use.map fun i=>st.hp.getD i .emp) s.inc eqs s.new (run C n k {st with fr:=s.aV++st.fr.filter (fun x=> !(s.aV.any fun y=>y.1==x.1)),hp:=fq st.hp s.use s.new,aQ:=mE})
    else .fail "scope"
   | none=> .fail "ghost"
 | n+1,.again body::k,st=>run C n (.code body:: .again body::k) st
 | _+1,.loop up nt c0 inc fr hp bk::_,st=>
  match sR C.T st bk with
  | none=> .fail "nil back"
  | some (st,nn)=>
  fO nn <|
  match mL fr st.fr,mM hp st.hp,lb nt.ds st.nt.ds with
  | some a,some b,some d=>if st.nt.n != nt.n then .fail "frame" else .back up c0 inc ((a++b++d).filter fun q=> !q.trivial c0)
  | _,_,none=> .fail "marks"
  | _,_,_=> .fail "back"
 | _+1,.jn _ up nt c0 inc fr hp pre::_,st=>
  match sR C.T st pre with
  | none=> .fail "nil join"
  | some (st,nn)=>
  fO nn <|
  match mL fr st.fr,mM hp st.hp,lb nt.ds st.nt.ds with
  | some a,some b,some d=>if st.nt.n != nt.n then .fail "frame" else .meet up c0 inc ((a++b++d).filter fun q=> !q.trivial c0)
  | _,_,none=> .fail "join marks"
  | none,_,_=> .fail "join slots"
  | _,_,_=> .fail "join"
 | n+1,.call fn nt fr d f::k,st=>
  match mO st with
  | some st=>
   match zE C.T st f with
   | some v=>if qc (fv st fn nt fr) d&&v.sc st.aQ then run C n k ((fv st fn nt fr).put d v)else .fail "destination"
   | none=> .fail "results"
  | none=> .fail "marks"
 | _+1,.top f::_,st=>
  match mO st with
  | some st=>
   match zE C.T st f with
   | some v=> .ret v st.hp
   | none=> .fail "results"
  | none=> .fail "marks"
 | n+1,.code c::k,st=>
  match c with
  | .skip=>run C n k st
  | .label _=>run C n k st
  | .seq a b=>run C n (.code a:: .code b::k) st
  | .cond x t e=>
   match HM st.fr st.known x with
   | some (.lit true)=>run C n (.code t::k) st
   | some (.lit false)=>run C n (.code e::k) st
   | some b=>if b.sc st.aQ then .fork b (run C n (.code t::k) {st with known:=b::st.known}) (run C n (.code e::k) {st with known:=iE b::st.known})else .fail "scope"
   | none=> .fail "cond"
  | .block id b=>
   match C.qj st.fn id with
   | none=>run C n (.code b:: .s5 id::k) st
   | some ja=>
    let ws:=writes b
    let aV:=ja.aV st.aQ
    let FQ:=aV++st.fr.filter fun x=> !(ws.contains x.1)&& !(aV.any fun y=>y.1==x.1)
    let jE:=ja.hp st.aQ st.hp
    let mE:=st.aQ.add ja.inc
    let xK:NT:={st.nt with ds:=ja.ds st.aQ st.nt.ds}
    if kW mE aV&&jE.all (Ck.sc mE)&&aV.all (fun x=>ad6 x.1 st.nt.n)&&xK.ds.all (MK.sc mE)then
     .join (nl k) ja.inc (run C n (.code b:: .jn (some id) (nl k) xK st.aQ ja.inc FQ jE ja.pre::k) st) (run C n k {st with fr:=FQ,hp:=jE,aQ:=mE,known:=[],nt:=xK})
    else .fail "scope"
  | .loop body=>
   match k with
   | .s5 id::_=>
    match C.loops st.fn id with
    | none=>run C n (.code body:: .again body::k) st
    | some la=>
     match sR C.T st la.pre with
     | none=> .fail "nil" id
     | some (st,nn)=>
     fO nn <|
     let ws:=writes body
     let aV:=la.aV st.aQ
     let FQ:=aV++st.fr.filter fun x=> !(ws.contains x.1)&& !(aV.any fun y=>y.1==x.1)
     let jE:=la.hp st.aQ st.hp
     let mE:=st.aQ.add la.inc
     let xK:NT:={st.nt with ds:=la.ds st.aQ st.nt.ds}
     match mL aV st.fr,mM jE st.hp,lb xK.ds st.nt.ds with
     | some a,some b,some d=>
      if kW mE aV&&jE.all (Ck.sc mE)&&aV.all (fun x=>ad6 x.1 st.nt.n)&&xK.ds.all (MK.sc mE)then
       .loop (nl k) la.inc ((a++b++d).filter fun q=> !q.trivial st.aQ)
        (run C n (.code body:: .loop (nl k) xK st.aQ la.inc FQ jE la.back::k) {st with fr:=FQ,hp:=jE,aQ:=mE,known:=[],nt:=xK})
      else .fail "scope"
     | _,_,_=> .fail "loop entry" id
   | _=>run C n (.code body:: .again body::k) st
  | .exit id=>match dc id k with
   | some k'=>run C n k' st
   | none=> .fail "exit" id
  | .ret=>match gj k with
   | some k'=>run C n k' st
   | none=> .fail "ret"
  | .region id ops false=>
   match C.qh st.fn id with
   | none=>run C n (.ops ops ops.toList::k) st
   | some g=>run C n (.ops ops ops.toList:: .gh g::k) st
  | .region id ops true=>
   let pm:=OH ops (aec ops.size) []
   if kq ops pm&&yE ops pm then
    match C.qj st.fn (id+100000)with
    | some ja=>
     let aV:=ja.aV st.aQ
     let FQ:=aV++st.fr.filter fun x=> !((writes (.region id ops true)).contains x.1)&& !(aV.any fun y=>y.1==x.1)
     let jE:=ja.hp st.aQ st.hp
     let mE:=st.aQ.add ja.inc
     let xK:NT:={st.nt with ds:=ja.ds st.aQ st.nt.ds}
     if kW mE aV&&jE.all (Ck.sc mE)&&aV.all (fun x=>ad6 x.1 st.nt.n)&&xK.ds.all (MK.sc mE)then
      .join (nl k) ja.inc (run C n (.sn ops pm (aec ops.size) 0 []:: .gh ja.gh:: .jn none (nl k) xK st.aQ ja.inc FQ jE ja.pre::k) st) (run C n k {st with fr:=FQ,hp:=jE,aQ:=mE,known:=[],nt:=xK})
     else .fail "scope"
    | none=>
    match C.qh st.fn id with
    | none=>run C n (.sn ops pm (aec ops.size) 0 []::k) st
    | some g=>run C n (.sn ops pm (aec ops.size) 0 []:: .gh g::k) st
   else .fail "order"
  | .rangeFunc g ps x y=>
   match iG (look st.fr) g with
   | some (.fn f jB)=>
    match C.FT.find? fun x=>x.1==f with
    | none=> .fail "call" f
    | some (_,fd)=>
     match fd.body with
     | none=> .fail "no body" f
     | some c=>
      if SV.pw st.aQ jB then
       match zD k with
       | none=>
        .uA true (run C n (.code c:: .rf (st.aQ.b+1) st.aQ.r st.fn ⟨st.nt.n,.one st.aQ.b::st.nt.ds⟩ st.fr ps x y fd::k)
         (fv {st with hp:=st.hp++[.JT st.aQ.b]++[.kI (st.aQ.b+1) st.aQ.r .ready .none],aQ:={st.aQ with b:=st.aQ.b+2,r:=st.aQ.r+1}} f ⟨fd.ntmps,[]⟩ (eo 0 (.Jp (st.aQ.b+1)::jB))))
       | some l0=>
        match recAt st.hp l0 with
        | some _=>
         .uA false (run C n (.code c:: .rf st.aQ.b st.aQ.r st.fn st.nt st.fr ps x y fd::k)
          (fv {st with hp:=st.hp++[.kI st.aQ.b st.aQ.r .ready .none],aQ:={st.aQ with b:=st.aQ.b+1,r:=st.aQ.r+1}} f ⟨fd.ntmps,[]⟩ (eo 0 (.Jp st.aQ.b::jB))))
        | none=> .fail "round"
      else .fail "scope"
   | _=> .fail "range over what"
  | _=> .fail "code"
 | n+1,.ops _ []::k,st=>run C n k st
 | n+1,.ops all (o::rest)::k,st=>
  if qc st o.dst then
  match qN all st.fr st.known o with
  | none=> .fail "guard" (st.fn*1000+o.dst.getD 0)
  | some (some (.lit false))=>run C n (.ops all rest::k) (st.put o.dst .undef)
  | some (some c)=>
   if c.sc st.aQ then
    match oK C (some c) st o with
    | some res=>
     match res.gJ with
     | .none=>qu (some c) res.vcs st.known (run C n (.ops all rest::k) (st.put o.dst (.opt c res.val)))
     | _=> .fork c (run C n (.ops all ({o with guard:=none}::rest)::k) (st.HL c)) (run C n (.ops all rest::k) ((st.ru c).put o.dst .undef))
    | none=> .fork c (run C n (.ops all ({o with guard:=none}::rest)::k) (st.HL c)) (run C n (.ops all rest::k) ((st.ru c).put o.dst .undef))
   else .fail "scope"
  | some none=>
   match oK C none st o with
   | some res=>
    let nx:=run C n (.ops all rest::k) (({db st res.gJ with known:=more res.vcs st.known}).put o.dst res.val)
    qu none res.vcs st.known (match res.gJ with | .new _=> .wD nx | .app .. => .xS nx | .own .. => .xS nx | .DL .. => .xS nx | _=>nx)
   | none=>
    match zH (look st.fr) o with
    | some (f,az)=>
     match C.FT.find? fun x=>x.1==f with
     | none=> .fail "call" f
     | some (_,fd)=>
      match fd.body with
      | none=>
       match RI C st.fn (o.dst.getD 0) f with
       | some ca=>
        if(q9 ca az st.hp st.aQ).sc (st.aQ.add ca.inc)&&(ca.new st.aQ ((ca.use az st.hp).map fun i=>st.hp.getD i .emp)).all (Ck.sc (st.aQ.add ca.inc))&&(ca.use az st.hp).all (fun i=>ad6 i st.hp.length)&&decide (ca.use az st.hp).Nodup then
         .ext f az ((ca.use az st.hp).map fun i=>st.hp.getD i .emp) ca.inc (q9 ca az st.hp st.aQ) (ca.new st.aQ ((ca.use az st.hp).map fun i=>st.hp.getD i .emp))
          (run C n (.ops all rest::k) ({st with hp:=fq st.hp (ca.use az st.hp) (ca.new st.aQ ((ca.use az st.hp).map fun i=>st.hp.getD i .emp)),aQ:=st.aQ.add ca.inc}.put o.dst (q9 ca az st.hp st.aQ)))
        else .fail "scope"
       | none=> .fail "no body" f
      | some c=>
       match CM C f az st.hp with
       | some r=>
        if r.val.sc st.aQ&&r.new.all (Ck.sc st.aQ)&&r.use.all (fun i=>ad6 i st.hp.length)&&decide r.use.Nodup then
         qu none r.vcs st.known (run C n (.ops all rest::k) ({st with hp:=fq st.hp r.use r.new}.put o.dst r.val))
        else .fail "scope"
       | none=>
       match RI C st.fn (o.dst.getD 0) f with
       | some ca=>
        let use:=ca.use az st.hp
        let new:=ca.new st.aQ (use.map fun i=>st.hp.getD i .emp)
        let v:=q9 ca az st.hp st.aQ
        let mE:=st.aQ.add ca.inc
        if v.sc mE&&new.all (Ck.sc mE)&&use.all (fun i=>ad6 i st.hp.length)&&decide use.Nodup then
         .call f az (use.map fun i=>st.hp.getD i .emp) ca.inc v new (run C n (.ops all rest::k) ({st with hp:=fq st.hp use new,aQ:=mE}.put o.dst v))
        else .fail "scope"
       | none=>
        if SV.pw st.aQ az then run C n (.code c:: .call st.fn st.nt st.fr o.dst fd:: .ops all rest::k) (fv st f ⟨fd.ntmps,[]⟩ (eo 0 az))else .fail "scope"
    | none=>
    match OI (look st.fr) o with
    | some (l,az)=>
     match rb l k,recAt st.hp l with
     | some (r,fn,nt,fr,ps,x,y),some (_,r',_,_)=>
      if r=r'&&az.length==ps.size then
       match kK (fv st fn ⟨nt.n,[]⟩ fr) (ps.toList.zip az)with
       | some ld=>run C n (.code x:: .begin l:: .code y:: .round l st.fn st.nt st.fr o.dst:: .ops all rest::k) ld
       | none=> .fail "slot"
      else .fail "yield"
     | _,_=> .fail "yield"
    | none=> .fail "op" (st.fn*1000+o.dst.getD 0)
  else .fail "slot"
 | n+1,.rf l _ fn nt fr _ _ _ fd::k,st=>
  match mO st with
  | some st=>
   match zE C.T st fd,recAt st.hp l with
   | some _,some (i,r,s,j)=>
    if s= .busy then .fail "busy" else
    match j with
    | .none=>run C n k (fv {st with hp:=st.hp.set i (.kI l r .exhausted j)} fn nt fr)
    | .ret=>run C n (.code .ret::k) (fv {st with hp:=st.hp.set i (.kI l r .exhausted j)} fn nt fr)
    | .exit id=>run C n (.code (.exit id)::k) (fv {st with hp:=st.hp.set i (.kI l r .exhausted j)} fn nt fr)
   | _,_=> .fail "results"
  | none=> .fail "marks"
 | n+1,.begin l::k,st=>
  match recAt st.hp l with
  | some (i,r,.ready,j)=>run C n k {st with hp:=st.hp.set i (.kI l r .busy j)}
  | _=> .fail "not ready"
 | n+1,.round l fn nt fr d::k,st=>run C n (.lO l .none fn nt fr d::k) st
 | n+1,.lO l j fn nt fr d::k,st=>
  match recAt st.hp l with
  | some (i,r,_,_)=>
   if qc (fv st fn nt fr) d then
    run C n k ((fv {st with hp:=st.hp.set i (.kI l r (if j= .none then .ready else .done) j)} fn nt fr).put d (.bool (.lit (decide (j= .none)))))
   else .fail "slot"
  | none=> .fail "record"
 | n+1,.sn all pm rest done log::k,st=>
  match rest with
  | []=>run C n k st
  | _=>
   match rest.find? fun i=>BZ all i&&lR all done i with
   | some i=>
    match all[i]? with
    | some o=>
     if qc st o.dst then
      match qN all (restrict st.fr (slotsOf all o)) st.known o with
      | none=> .fail "guard" i
      | some g=>
       if gsc st.aQ g then
        match D3 C g {st with fr:=restrict st.fr (slotsOf all o)} o with
        | some res=>
         match res.gJ with
         | .none=>
          qu g res.vcs st.known (run C n (.sn all pm (rest.filter fun j=>j != i) (done|||(1 <<< i)) ((i,res.rd)::log)::k)
           (({st with known:=BX g res.vcs st.known}).put o.dst (J1 g res.val)))
         | _=> .fail "effect" i
        | none=> .fail "quiet" i
       else .fail "scope"
     else .fail "slot"
    | none=> .fail "no op"
   | none=>
    My ((rest.filter (lR all done)).map fun e=>
     match all[e]? with
     | some o=>
      if qc st o.dst then run C n (.ops all [o]:: .Mv all pm e rest done log st.fn st.nt st.fr st.hp st.aQ::k) {st with fr:=restrict st.fr (slotsOf all o)}else .fail "slot"
     | none=> .fail "no op")
 | n+1,.Mv all pm e rest done log fn nt fr hp aQ::k,st=>
  match all[e]? with
  | some o=>
   if(log.all fun x=>(pm.getD e 0).testBit x.1||kept aQ hp st.hp x.2)&&st.nt==nt then
    match (match o.dst with | some d=>look st.fr d | none=>some .undef)with
    | some v=>run C n (.sn all pm (rest.filter fun j=>j != e) (done|||(1 <<< e)) log::k) ((fv st fn nt fr).put o.dst v)
    | none=> .fail "result"
   else .fail "read beside"
  | none=> .fail "no op"
def cC(C:Ctx)(f:Nat)(args:List SV)(hp:List Ck)(aQ:cz)(fd:Func):F:=
 match fd.body with
 | some c=>if SV.pw aQ args&&hp.all (Ck.sc aQ)then run C 100000 [.code c,.top fd] {fn:=f,fr:=eo 0 args,hp:=hp,aQ:=aQ,nt:=⟨fd.ntmps,[]⟩}else .fail "scope"
 | none=> .fail "no body"
end Go.RX
