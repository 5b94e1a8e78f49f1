/- Executor. -/
import Derived.Test.YtphemenngjkfbaaRxC
open Go.Region renaming binds → ahh
open List renaming range → ag5
open Nat renaming blt → agT
namespace Go.RX
def cF.add(a b:cF):cF:=⟨a.b+b.b,a.v+b.v,a.i+b.i,a.a+b.a,a.bo+b.bo,a.p+b.p,a.r+b.r⟩
inductive eT where
 | e (a b:E)
 | a (n:E) (a b:E)
 | af (a b:E)
 | b (a b:BE)
 | v (i j:Nat)
 | p (i j:Nat)
 | bl (i j:Nat)
 | rc (i j:Nat)
 deriving Repr
inductive F where
 | fail (s:String) (slot:Nat:=0)
 | vc (b:BE) (r:F)
 | fork (c:BE) (t e:F)
 | ret (v:SV) (hp:List Ck)
 | yL (r:F)
 | zR (r:F)
 | cC (r:F)
 | wD (outer:Bool) (r:F)
 | call (f:Nat) (args:List SV) (use:List Ck) (inc:cF) (val:SV) (new:List Ck) (r:F)
 | ext (f:Nat) (args:List SV) (use:List Ck) (inc:cF) (val:SV) (new:List Ck) (r:F)
 | loop (up:Nat) (inc:cF) (eqs:List eT) (body:F)
 | back (up:Nat) (c0:cF) (inc:cF) (eqs:List eT)
 | join (up:Nat) (inc:cF) (body r:F)
 | meet (up:Nat) (c0:cF) (inc:cF) (eqs:List eT)
 | ghost (use:List Ck) (inc:cF) (eqs:List eT) (new:List Ck) (r:F)
 | both (a b:F)
 deriving Inhabited
def Om:List F→F
 | []=> .fail "none"
 | [x]=>x
 | x::y::r=> .both x (Om (y::r))
def E.sc(c:cF):E→Bool
 | .lit _=>true
 | .var i=>agT i c.i
 | .aw i=>agT i c.a
 | .gW a i=>a.sc c&&i.sc c
 | .bin _ _ a b=>a.sc c&&b.sc c
 | .wrap _ a=>a.sc c
 | .bP a i v=>a.sc c&&i.sc c&&v.sc c
 | .shift a o=>a.sc c&&o.sc c
 | .Eg a o n b=>a.sc c&&o.sc c&&n.sc c&&b.sc c
 | .kc _ a=>a.sc c
 | .rT b=>agT b c.b
 | .qw _=>true
 | .RG a i=>a.sc c&&i.sc c
 | .qJ a i s=>a.sc c&&i.sc c&&s.sc c
 | .TJ s=>s.sc c
def BE.sc(c:cF):BE→Bool
 | .lit _=>true
 | .var i=>agT i c.bo
 | .eq a b=>a.sc c&&b.sc c
 | .lt a b=>a.sc c&&b.sc c
 | .le a b=>a.sc c&&b.sc c
 | .nz a=>a.sc c
 | .TL _ a b=>a.sc c&&b.sc c
 | .not a=>a.sc c
 | .and a b=>a.sc c&&b.sc c
 | .or a b=>a.sc c&&b.sc c
 | .ite x t e=>x.sc c&&t.sc c&&e.sc c
 | .seq a b=>a.sc c&&b.sc c
def Cut.sc(c:cF)(k:Cut):Bool:=k.lo.sc c&&k.hi.sc c&&(match k.mx with | some m=>m.sc c | none=>true)
mutual
def SV.sc(c:cF):SV→Bool
 | .int _ e=>e.sc c
 | .bool b=>b.sc c
 | .ptr b _=>agT b c.b
 | .qy b i _ _=>agT b c.b&&i.sc c
 | .pv v i _ _=>agT v c.v&&i.sc c
 | .sl b i _ n m=>agT b c.b&&i.sc c&&n.sc c&&m.sc c
 | .vv i=>agT i c.v
 | .fn _ kp=>SV.qz c kp
 | .agg cs=>SV.qz c cs
 | .a_ _ _ a=>a.sc c
 | .lp vs=>SV.qz c vs
 | .opt b v=>b.sc c&&v.sc c
 | .FI _ i=>i.sc c
 | .LB l=>agT l c.b
 | .mp b=>agT b c.b
 | .ji v cs _=>agT v c.v&&cs.all (Cut.sc c)
 | .dh e=>e.sc c
 | .Ny e=>e.sc c
 | .lZ e=>e.sc c
 | .Ia b v=>b.sc c&&agT v c.v
 | .NP _ _ e=>e.sc c
 | _=>true
def SV.qz(c:cF):List SV→Bool
 | []=>true
 | v::r=>v.sc c&&SV.qz c r
end
def CK.sc(c:cF):CK→Bool
 | .Ii l=>l.all fun n=>agT n c.v
 | .pt i v=>i.sc c&&agT v c.v
 | _=>true
def cb.sc(c:cF)(k:cb):Bool:=k.a.sc c&&k.ck.sc c
def Ck.sc(c:cF):Ck→Bool
 | .emp=>true
 | .row b _ cs=>agT b c.b&&SV.qz c cs
 | .cy _ v _ _ n aA=>agT v c.v&&n.sc c&&aA.all (cb.sc c)
 | .abs i=>agT i c.p
 | .mg l r _ _=>agT l c.b&&agT r c.r
 | .Mb b=>agT b c.b
 | .qA b=>agT b c.b
 | .map b _ _ _ zero has aA=>agT b c.b&&SV.qz c zero&&has.sc c&&aA.all (cb.sc c)
 | .ow b _ _ _ zero es=>agT b c.b&&SV.qz c zero&&es.all fun e=>SV.qz c e.2
 | .Kf b _ _ n a=>agT b c.b&&n.sc c&&a.sc c
 | .NA b _ _=>agT b c.b
def mH(c:cF)(fr:List (Nat×SV)):Bool:=fr.all fun x=>x.2.sc c
def Ch.sc(c:cF):Ch→Bool
 | .none=>true
 | .new (.row _ _ cs)=>SV.qz c cs
 | .new (.map _ _ _ _ zero has aA)=>SV.qz c zero&&has.sc c&&aA.all (cb.sc c)
 | .new (.ow _ _ _ _ zero es)=>SV.qz c zero&&es.all fun e=>SV.qz c e.2
 | .new (.Kf _ _ _ n a)=>n.sc c&&a.sc c
 | .new (.NA _ _ _)=>true
 | .set _ ck=>ck.sc c
 | .app _ (.cy _ _ _ _ n aA)=>n.sc c&&aA.all (cb.sc c)
 | .own (.cy _ _ _ _ n aA)=>n.sc c&&aA.all (cb.sc c)
 | .F1 (.cy _ _ _ _ n aA)=>n.sc c&&aA.all (cb.sc c)
 | _=>false
def Ch.grow(c:cF):Ch→cF
 | .new _=>{c with b:=c.b+1}
 | .app .. =>{c with v:=c.v+1}
 | .own .. =>{c with v:=c.v+1}
 | .F1 .. =>{c with v:=c.v+1}
 | _=>c
def iC.sc(c:cF)(r:iC):Bool:=r.val.sc (r.ij.grow c)&&r.vcs.all (BE.sc c)&&r.ij.sc c
inductive MK where
 | one (b:Nat)
 | many (b:Nat)
 deriving DecidableEq,Repr
def MK.sc(c:cF):MK→Bool
 | .one b=>agT b c.b
 | .many b=>agT b c.b
def mK:List MK→List MK→Option (List eT)
 | [],[]=>some []
 | .one b::r,.one b'::r'=>(mK r r').map (.bl b b':: ·)
 | .many b::r,.many b'::r'=>(mK r r').map (.bl b b':: ·)
 | _,_=>none
structure NT where
 n:Nat:=0
 ds:List MK:=[]
 deriving DecidableEq,Repr,Inhabited
structure St where
 fn:Nat:=0
 fr:List (Nat×SV):=[]
 hp:List Ck:=[]
 aS:cF:={}
 known:List BE:=[]
 nt:NT:={}
 deriving Inhabited
def look(fr:List (Nat×SV))(s:Nat):Option SV:=
 match fr with
 | []=>none
 | (t,v)::r=>if t==s then some v else look r s
def St.put(st:St)(d:Option Nat)(v:SV):St:=
 match d with
 | some d=>{st with fr:=(d,v)::st.fr.filter fun x=> !(x.1==d)}
 | none=>st
structure bp where
 use:List SV→List Ck→List Nat
 inc:cF:={}
 val:cF→SV
 new:cF→List Ck→List Ck
 valOf:Option (List SV→List Ck→SV):=none
def sH(ca:bp)(az:List SV)(hp:List Ck)(c:cF):SV:=
 match ca.valOf with
 | some g=>g az hp
 | none=>ca.val c
inductive tu where
 | slot (s t:Nat)
 | cell (i j t:Nat)
 | cut (s:Nat) (md:Bool)
 | wg (i j:Nat) (md:Bool)
 | marks
 | mark
 | swap (s i:Nat)
 | own (s t:Nat)
structure jg where
 pre:List tu:=[]
 inc:cF:={}
 slots:cF→List (Nat×SV)
 hp:cF→List Ck→List Ck:=fun _ h=>h
 back:List tu:=[]
 ds:cF→List MK→List MK:=fun _ d=>d
structure ct where
 split:Option BE:=none
 pick:Option (List Nat):=none
 use:List Nat:=[]
 inc:cF:={}
 slots:List (Nat×SV):=[]
 new:List Ck:=[]
structure vD where
 pre:List tu:=[]
 inc:cF:={}
 slots:cF→List (Nat×SV)
 hp:cF→List Ck→List Ck:=fun _ h=>h
 ds:cF→List MK→List MK:=fun _ d=>d
 gh:St→Option ct:=fun _=>none
inductive KI where
 | gh (g:St→Option ct)
 | code (c:Code)
 | ops (all:Array Oper) (rest:List Oper)
 | ug (all:Array Oper) (pm:List Nat) (rest:List Nat) (done:Nat) (log:List (Nat×List Nat))
 | Oj (all:Array Oper) (pm:List Nat) (e:Nat) (rest:List Nat) (done:Nat) (log:List (Nat×List Nat)) (fn:Nat) (nt:NT) (fr:List (Nat×SV)) (hp:List Ck) (aS:cF)
 | rT (id:Nat)
 | again (body:Code)
 | loop (up:Nat) (nt:NT) (c0:cF) (inc:cF) (fr:List (Nat×SV)) (hp:List Ck) (bk:List tu)
 | jn (id:Option Nat) (up:Nat) (nt:NT) (c0:cF) (inc:cF) (fr:List (Nat×SV)) (hp:List Ck) (pre:List tu)
 | call (fn:Nat) (nt:NT) (fr:List (Nat×SV)) (dst:Option Nat) (callee:Func)
 | rf (l r:Nat) (fn:Nat) (nt:NT) (fr:List (Nat×SV)) (ps:Array Tmp) (assign body:Code) (callee:Func)
 | begin (l:Nat)
 | round (l:Nat) (fn:Nat) (nt:NT) (fr:List (Nat×SV)) (dst:Option Nat)
 | m9 (l:Nat) (j:Jump) (fn:Nat) (nt:NT) (fr:List (Nat×SV)) (dst:Option Nat)
 | top (callee:Func)
 deriving Inhabited
structure Zc where
 val:SV
 vcs:List BE:=[]
 use:List Nat:=[]
 new:List Ck:=[]
structure Ctx where
 T:List TI
 FT:List (Nat×Func)
 calls:Nat→Nat→Option bp:=fun _ _=>none
 loops:Nat→Nat→Option jg:=fun _ _=>none
 iI:Nat→Nat→Option vD:=fun _ _=>none
 jq:Nat→Nat→Option (St→Option ct):=fun _ _=>none
 dc:Nat→Option bp:=fun _=>none
 pure:Nat→Option (List SV→List Ck→Option Zc):=fun _=>none
def Fi(C:Ctx)(f:Nat)(az:List SV)(hp:List Ck):Option Zc:=
 match C.pure f with
 | some g=>g az hp
 | none=>none
def UC(C:Ctx)(fn d f:Nat):Option bp:=
 match C.calls fn d with
 | some ca=>some ca
 | none=>C.dc f
def mN:List Cut→List Cut→Option (List eT)
 | [],[]=>some []
 | a::r,b::r'=>
  match a.mx,b.mx,mN r r' with
  | none,none,some x=>some (.e a.lo b.lo:: .e a.hi b.hi::x)
  | some m,some m',some x=>some (.e a.lo b.lo:: .e a.hi b.hi:: .e m m'::x)
  | _,_,_=>none
 | _,_=>none
mutual
def vl:SV→SV→Option (List eT)
 | .int k a,.int k' b=>if k=k' then some [.e a b]else none
 | .bool a,.bool b=>some [.b a b]
 | .dR,.dR=>some []
 | .bY,.bY=>some []
 | .pE,.pE=>some []
 | .uQ,.uQ=>some []
 | .iJ,.iJ=>some []
 | .undef,.undef=>some []
 | .ptr b c,.ptr b' c'=>if c=c' then some [.bl b b']else none
 | .qy b i s c,.qy b' i' s' c'=>if c=c'∧s=s' then some [.bl b b',.e i i']else none
 | .pv b i s c,.pv b' i' s' c'=>if c=c'∧s=s' then some [.v b b',.e i i']else none
 | .sl b i s n m,.sl b' i' s' n' m'=>if s=s' then some [.bl b b',.e i i',.e n n',.e m m']else none
 | .vv i,.vv j=>some [.v i j]
 | .str l,.str l'=>if l=l' then some []else none
 | .lZ s,.lZ s'=>some [.af s s']
 | .Ia c v,.Ia c' v'=>some [.b c c',.v v v']
 | .NP t k e,.NP t' k' e'=>if t=t'∧k=k' then some [.e e e']else none
 | .lZ s,.str l=>some [.af s (fZ l)]
 | .fn f cs,.fn f' wG=>if f=f' then gA cs wG else none
 | .agg cs,.agg wG=>gA cs wG
 | .a_ k n a,.a_ k' n' b=>if k=k'∧n=n' then some [.a (.lit n) a b]else none
 | .lp cs,.lp wG=>gA cs wG
 | .opt c v,.opt c' v'=>(vl v v').map (.b c c':: ·)
 | .LB l,.LB l'=>some [.bl l l']
 | .mp l,.mp l'=>some [.bl l l']
 | .dh e,.dh e'=>some [.e e e']
 | .dh e,.ptr b o=>if o=0 then some [.e e (.rT b)]else none
 | .dh e,.dR=>some [.e e (.lit 0)]
 | .ptr b o,.dh e=>if o=0 then some [.e (.rT b) e]else none
 | .Ny e,.Ny e'=>some [.e e e']
 | .Ny e,.bY=>some [.e e (.lit 0)]
 | .ji v cs s,.ji v' wG s'=>if s=s' then(mN cs wG).map (.v v v':: ·)else none
 | _,_=>none
def gA:List SV→List SV→Option (List eT)
 | [],[]=>some []
 | a::r,b::r'=>match vl a b,gA r r' with
  | some x,some y=>some (x++y)
  | _,_=>none
 | _,_=>none
end
def jy(n:E):List cb→List cb→Option (List eT)
 | [],[]=>some []
 | a::r,b::r'=>
  match a.ck,b.ck with
  | .Ii l,.Ii l'=>if l.length=l'.length∧a.w=b.w then(jy n r r').map ((l.zip l').map (fun x=>eT.v x.1 x.2)++ ·)else none
  | .pt _ _,_=>none
  | _,_=>if a.ck=b.ck∧a.w=b.w then(jy n r r').map ((if a.ck= .str then .af a.a b.a else .a (qL n (.lit a.w)) a.a b.a):: ·)
   else if a.ck= .cv∧b.ck= .bY∧a.w=b.w then(jy n r r').map (.a (qL n (.lit a.w)) a.a (.lit 0):: ·)else none
 | _,_=>none
def jm:List cb→List cb→Option (List eT)
 | [],[]=>some []
 | a::r,b::r'=>
  match a.ck,b.ck with
  | .Ii _,_=>none
  | .pt i v,.pt j u=>if a.w=b.w then(jm r r').map (fun l=> .e i j:: .v v u:: .af a.a b.a::l)else none
  | .pt _ _,_=>none
  | _,_=>if a.ck=b.ck∧a.w=b.w then(jm r r').map (.af a.a b.a:: ·)else none
 | _,_=>none
def uf:Nat→List SV→List SV→List SV
 | 0,_,act=>act
 | f+1,.int _ _::p,.a_ k (m+1) a::r=> .int k (gX a (.lit 0))::uf f p (if m=0 then r else .a_ k m (kQ a (.lit 1))::r)
 | f+1,.a_ k n _::p,x::r=>
  if SV.width x=n then x::uf f p r else
  match jS 0 n (x::r),fF n (x::r)with
  | some c,some d=>
   match rowOf c with
   | some (kl,e)=>if kl=List.replicate n k then .a_ k n e::uf f p d else x::r
   | none=>x::r
  | _,_=>x::r
 | f+1,_::p,x::r=>x::uf f p r
 | _+1,_,act=>act
def se:List (Nat×List SV)→List (Nat×List SV)→Option (List eT)
 | [],[]=>some []
 | (i,v)::r,(j,u)::r'=>if i=j then(match gA v u,se r r' with
  | some x,some y=>some (x++y)
  | _,_=>none)else none
 | _,_=>none
def zg:Ck→Ck→Option (List eT)
 | .emp,.emp=>some []
 | .row b w cs,.row b' w' wG=>if w=w' then(gA cs (uf 200 cs wG)).map (.bl b b':: ·)else none
 | .cy md v t s n aA,.cy md' v' t' s' n' aV=>if md=md'∧t=t'∧s=s' then(jy n aA aV).map fun r=> .v v v':: .e n n'::r else none
 | .abs i,.abs j=>some [.p i j]
 | .mg l r s j,.mg l' r' s' j'=>if s=s'∧j=j' then some [.bl l l',.rc r r']else none
 | .Mb b,.Mb b'=>some [.bl b b']
 | .qA b,.qA b'=>some [.bl b b']
 | .map b kl ka va z has aA,.map b' NC ka' va' z' Iz aV=>
  if kl=NC∧ka=ka'∧va=va' then
   match gA z z',jm aA aV with
   | some x,some y=>some (.bl b b':: .af has Iz::(x++y))
   | _,_=>none
  else none
 | .ow b kl ka va z es,.ow b' NC ka' va' z' XQ=>
  if kl=NC∧ka=ka'∧va=va' then
   match gA z z',se es XQ with
   | some x,some y=>some (.bl b b'::(x++y))
   | _,_=>none
  else none
 | .Kf b t e n a,.Kf b' t' e' n' a'=>if t=t'∧e=e' then some [.bl b b',.e n n',.a n a a']else none
 | .NA b l p,.NA b' l' p'=>if l=l'∧p=p' then some [.bl b b']else none
 | _,_=>none
def nT:List Ck→List Ck→Option (List eT)
 | [],_=>some []
 | a::r,b::r'=>match zg a b,nT r r' with
  | some x,some y=>some (x++y)
  | _,_=>none
 | _::_,[]=>none
def nS(pat act:List (Nat×SV)):Option (List eT):=
 match pat with
 | []=>some []
 | (s,v)::r=>match look act s,nS r act with
  | some v',some y=>(vl v v').map (· ++y)
  | _,_=>none
def eT.trivial(c:cF):eT→Bool
 | .e x y=>x==y&&x.sc c
 | .a n x y=>x==y&&x.sc c&&n.sc c
 | .b x y=>x==y&&x.sc c
 | .af x y=>x==y&&x.sc c
 | .v i j=>i==j&&agT i c.v
 | .p i j=>i==j&&agT i c.p
 | .bl i j=>i==j&&agT i c.b
 | .rc i j=>i==j&&agT i c.r
def writes:Code→List Nat
 | .region _ ops _=>ops.toList.filterMap (·.dst)
 | .seq a b=>writes a++writes b
 | .cond _ a b=>writes a++writes b
 | .block _ b=>writes b
 | .loop b=>writes b
 | .scope b=>writes b
 | .rangeFunc _ ps a b=>ps.toList++writes a++writes b
 | _=>[]
def dB(id:Nat):List KI→Option (List KI)
 | .rT i::k=>if i==id then some k else dB id k
 | .again _::k=>dB id k
 | .code _::k=>dB id k
 | .ops .. ::k=>dB id k
 | .loop .. ::k=>dB id k
 | .gh _::k=>dB id k
 | .jn i up nt c0 inc fr hp pre::k=>if i==some id then some (.jn i up nt c0 inc fr hp pre::k)else dB id k
 | .round l fn nt fr d::k=>some (.m9 l (.exit id) fn nt fr d::k)
 | _=>none
def gM:List KI→Option (List KI)
 | .call fn nt fr d f::k=>some (.call fn nt fr d f::k)
 | .top f::k=>some (.top f::k)
 | .rf l r fn nt fr ps x y f::k=>some (.rf l r fn nt fr ps x y f::k)
 | .round l fn nt fr d::k=>some (.m9 l .ret fn nt fr d::k)
 | .rT _::k=>gM k
 | .again _::k=>gM k
 | .code _::k=>gM k
 | .ops .. ::k=>gM k
 | .loop .. ::k=>gM k
 | .jn .. ::k=>gM k
 | .gh _::k=>gM k
 | _=>none
def around:List KI→Option Nat
 | []=>none
 | .call .. ::_=>none
 | .top _::_=>none
 | .rf .. ::_=>none
 | .begin l::_=>some l
 | .round l .. ::_=>some l
 | _::k=>around k
def nl:List KI→Nat
 | []=>0
 | .loop .. ::k=>nl k+1
 | .jn .. ::k=>nl k+1
 | _::k=>nl k
def Fj(T:List TI)(st:St):ResultVar→Option SV
 | .tmp t=>look st.fr t
 | .cell a t=>match aW T t,look st.fr a with
  | some ti,some x=>match zd st.hp ti.k.agg ti.size x with
   | some r=>if r.vcs.isEmpty then some r.val else none
   | none=>none
  | _,_=>none
def BD(T:List TI)(st:St)(fn:Func):Option SV:=
 match jV (fn.results.toList.map (Fj T st))with
 | some [v]=>some v
 | some vs=>some (.lp vs)
 | none=>none
def uk:Env:={}
def BE.sure(b:BE):Bool:=b.sc {}&&b.den uk
def more(vcs known:List BE):List BE:=vcs.filter (fun b=> !b.sure)++known
def Xd(g:Option BE)(b:BE):BE:=
 match g with
 | some c=>ZE (iT c) b
 | none=>b
def rP(g:Option BE):List BE→List BE→F→F
 | [],_,r=>r
 | b::bs,known,r=>if Xd g b== .lit true||known.contains (Xd g b)||(Xd g b).sure then rP g bs known r else .vc (Xd g b) (rP g bs known r)
def oE(ρ:Env):Option BE→Bool
 | some c=>c.den ρ
 | none=>true
def guardOf(all:Array Oper)(fr:List (Nat×SV))(o:Oper):Option (Option BE):=
 match o.guard with
 | none=>some none
 | some (j,want)=>
  match all[j]? with
  | some oj=>match oj.dst with
   | some d=>match look fr d with
    | some (.bool b)=>some (some (if want then b else iT b))
    | some (.opt c (.bool b))=>some (some (B1 c (if want then b else iT b)))
    | some .undef=>some (some (.lit false))
    | some (.opt _ .undef)=>some (some (.lit false))
    | _=>none
   | none=>none
  | none=>none
def dA(st:St)(e:Ch):St:=
 match e with
 | .none=>st
 | .new ck=>{st with hp:=st.hp++[ck],aS:={st.aS with b:=st.aS.b+1}}
 | .set i ck=>{st with hp:=st.hp.set i ck}
 | .app i ck=>{st with hp:=st.hp.set i ck,aS:={st.aS with v:=st.aS.v+1}}
 | .own ck=>{st with hp:=st.hp++[ck],aS:={st.aS with v:=st.aS.v+1}}
 | .F1 ck=>{st with hp:=st.hp++[ck],aS:={st.aS with v:=st.aS.v+1}}
def lL{α:Type}(e:α)(hp:List α):List Nat→List α→List α
 | i::r,c::cs=>lL e (hp.set i c) r cs
 | i::r,[]=>lL e (hp.set i e) r []
 | [],cs=>hp++cs
def fS(hp:List Ck)(use:List Nat)(new:List Ck):List Ck:=lL .emp hp use new
def Ll(T:List TI)(st:St)(t:Nat):Option St:=
 match aW T t,xC T 30 t with
 | some ti,some aA=>if aA.all (cb.sc st.aS)then some {st with hp:=st.hp++[.cy true st.aS.v t ti.size (.lit 0) aA],aS:={st.aS with v:=st.aS.v+1}}else none
 | _,_=>none
inductive Wrap where
 | nil
 | cut (vcs:List BE)
 | rT
 | same
def BF(st:St)(x:SV)(md:Bool):Option (St×Wrap):=
 match gJ st.hp x with
 | some r=>
  match iF r.p.lo r.aA with
  | some aA=>
   if r.s=cn r.aA∧(md=true→r.md=true)∧r.p.len.sc st.aS=true∧aA.all (cb.sc st.aS)=true then
    some ({st with hp:=st.hp.set r.j (.cy md st.aS.v r.t r.s r.p.len aA),aS:={st.aS with v:=st.aS.v+1}},.cut (r.vcs++eh (.lit 0) r.p.len))
   else none
  | none=>none
 | none=>none
def QP(st:St)(x:SV)(t:Nat):Option (St×Wrap):=
 match x with
 | .sl b i s n m=>
  match findAt st.hp b,fw i,fw n with
  | some (j,.row _ true cs),some 0,some q=>
   match rowOf cs with
   | some (ki::kl,a)=>
    if n=m∧s=1∧kl.length+1=q∧ki::kl=List.replicate q ki∧q≤140737488355328∧a.sc st.aS=true then
     some ({st with hp:=st.hp.set j (.cy true st.aS.v t 1 (.lit (q:Int)) [⟨.int ki,1,a⟩]),aS:={st.aS with v:=st.aS.v+1}},.cut [])
    else none
   | _=>none
  | _,_,_=>none
 | _=>none
def Ck.D4(b:Nat):Ck→Bool
 | .Mb b'=>b==b'
 | _=>false
def Ck.xF(b:Nat):Ck→Bool
 | .qA b'=>b==b'
 | _=>false
def swapAt(hp:List Ck)(i j:Nat):List Ck:=
 match hp[i]?,hp[j]? with
 | some d,some c=>(hp.set i c).set j d
 | _,_=>hp
def WH(st:St)(s:Nat):Option Nat:=
 match look st.fr s with
 | some (.ptr b _)=>(findAt st.hp b).map (·.1)
 | some (.vv v)=>(ef st.hp v).map (·.1)
 | some (.sl b _ _ _ _)=>(findAt st.hp b).map (·.1)
 | _=>none
def eo(T:List TI)(st:St)(x:tu):Option (St×Wrap):=
 match x with
 | .slot s t=>match look st.fr s with
  | some .bY=>(Ll T st t).map fun dD=>(dD.put (some s) (.vv st.aS.v),.nil)
  | _=>none
 | .cell i j t=>match st.hp[i]? with
  | some (.row b w cs)=>match cs[j]? with
   | some .bY=>(Ll T st t).map fun dD=>({dD with hp:=dD.hp.set i (.row b w (cs.set j (.vv st.aS.v)))},.nil)
   | _=>none
  | _=>none
 | .cut s md=>match look st.fr s with
  | some x=>(BF st x md).map fun y=>(y.1.put (some s) (.vv st.aS.v),y.2)
  | none=>none
 | .wg i j md=>match st.hp[i]? with
  | some (.row b w cs)=>match cs[j]? with
   | some x=>match BF st x md with
    | some (dD,wr)=>match dD.hp[i]? with
     | some (.row b' w' _)=>if b'=b∧w'=w then some ({dD with hp:=dD.hp.set i (.row b w (cs.set j (.vv st.aS.v)))},wr)else none
     | _=>none
    | none=>none
   | none=>none
  | _=>none
 | .marks=>some ({st with nt:={st.nt with ds:= .many st.aS.b::st.nt.ds},hp:=st.hp++[.qA st.aS.b],aS:={st.aS with b:=st.aS.b+1}},.rT)
 | .mark=>match st.nt.ds with
  | .one b:: .many c::ds=>match st.hp.findIdx? (Ck.D4 b),st.hp.findIdx? (Ck.xF c)with
   | some i,some j=>some ({st with nt:={st.nt with ds:= .many st.aS.b::ds},hp:=(st.hp.set i .emp).set j (.qA st.aS.b),aS:={st.aS with b:=st.aS.b+1}},.rT)
   | _,_=>none
  | .many _::_=>some (st,.same)
  | _=>none
 | .own s t=>match look st.fr s with
  | some x=>(QP st x t).map fun y=>(y.1.put (some s) (.vv st.aS.v),y.2)
  | none=>none
 | .swap s i=>match WH st s with
  | some j=>some ({st with hp:=swapAt st.hp i j},.same)
  | none=>none
def uD(T:List TI):St→List tu→Option (St×List Wrap)
 | st,[]=>some (st,[])
 | st,x::r=>match eo T st x with
  | some (dD,y)=>match uD T dD r with
   | some (s2,k)=>some (s2,y::k)
   | none=>none
  | none=>none
def vcF:List BE→F→F
 | [],f=>f
 | b::r,f=> .vc b (vcF r f)
def gn:List Wrap→F→F
 | [],f=>f
 | .nil::r,f=> .cC (gn r f)
 | .rT::r,f=> .yL (gn r f)
 | .same::r,f=>gn r f
 | .cut vcs::r,f=>vcF vcs (.zR (gn r f))
def BG(look:Nat→Option SV)(o:Oper):Option (Nat×List SV):=
 match o.op with
 | .call {callee:= .value f,args,.. }=>
  match jl look f,jV (args.toList.map (jl look))with
  | some (.fn f kp),some az=>some (f,az++kp)
  | _,_=>none
 | _=>none
def eP(n:Nat):List SV→List (Nat×SV)
 | []=>[]
 | v::r=>(n,v)::eP (n+1) r
def sI(known:List BE)(b:BE):BE:=
 match b with
 | .lit x=> .lit x
 | b=>if b.sc {}then .lit (b.den uk)else if known.contains b then .lit true else if known.contains (iT b)then .lit false else b
def SV.J0(c:BE):SV→SV
 | .opt c' v=>
  if c'=c then v else
  match c' with
  | .and a b=>if a=c then .opt b v else .opt (.and a b) v
  | c'=> .opt c' v
 | .bool b=>if b=c then .bool (.lit true)else .bool b
 | v=>v
def SV.sR(c:BE):SV→SV
 | .opt c' v=>
  if c'=c then .undef else
  match c' with
  | .and a b=>if a=c then .undef else .opt (.and a b) v
  | c'=> .opt c' v
 | .bool b=>if b=c then .bool (.lit false)else .bool b
 | v=>v
def St.J0(c:BE)(st:St):St:={st with fr:=st.fr.map fun x=>(x.1,x.2.J0 c),known:=c::st.known}
def St.sR(c:BE)(st:St):St:={st with fr:=st.fr.map fun x=>(x.1,x.2.sR c),known:=iT c::st.known}
def under(c:BE)(lk:Nat→Option SV)(s:Nat):Option SV:=
 match lk s with
 | some (.opt c' v)=>
  if c'=c then some v else
  match c' with
  | .and a b=>if a=c then some (.opt b v)else some (.opt (.and a b) v)
  | c'=>some (.opt c' v)
 | x=>x
def J1(fr:List (Nat×SV))(known:List BE)(x:Operand):Option BE:=
 match jl (look fr) x with
 | some (.bool b)=>some (sI known b)
 | _=>none
def si(all:Array Oper)(fr:List (Nat×SV))(known:List BE)(o:Oper):Option (Option BE):=
 match guardOf all fr o with
 | some (some b)=>match sI known b with
  | .lit true=>some none
  | b=>some (some b)
 | x=>x
def SV.fix(known:List BE):SV→SV
 | .opt c v=>match sI known c with
  | .lit true=>v
  | .lit false=> .undef
  | _=> .opt c v
 | .bool b=> .bool (sI known b)
 | v=>v
def SV.WI(c:BE)(known:List BE):SV→SV
 | .bool b=>if known.contains (iT (B1 c b))then .bool (.lit false)else .bool b
 | .opt b v=>if known.contains (iT (B1 c b))then .undef else .opt b v
 | v=>v
def Dx(g:Option BE)(known:List BE)(fr:List (Nat×SV))(s:Nat):Option SV:=
 match g with
 | some c=>(under c (look fr) s).map fun v=>(v.fix known).WI c known
 | none=>(look fr s).map (SV.fix known)
def Op.quiet:Op→Bool
 | .move _ | .assign _ | .pick .. | .build .. | .load .. | .nilCheck _ | .binOp .. | .unOp .. | .sliceToArrayPointer .. | .fieldAddr .. | .field .. | .indexAddr .. | .index .. | .extract .. | .makeFunc .. | .makeInterface .. | .slice .. | .lookup .. =>true
 | .convert a b _=> !(a==b)
 | .call {callee:= .builtin .len,.. }=>true
 | .call {callee:= .builtin .max,.. }=>true
 | .call {callee:= .builtin .min,.. }=>true
 | _=>false
def nf(all:Array Oper)(done:Nat)(i:Nat):Bool:=
 match all[i]? with
 | some o=>o.after.toList.all fun e=> !ahh .any e||done.testBit e.on
 | none=>false
def QQ(all:Array Oper):List Nat→List Nat→List Nat
 | [],acc=>acc
 | i::r,acc=>
  match all[i]? with
  | some o=>QQ all r (acc++[o.after.toList.foldl (fun s e=>if ahh .any e&&agT e.on i then s|||(1 <<< e.on)|||acc.getD e.on 0 else s) 0])
  | none=>acc
def slotsOf(all:Array Oper)(o:Oper):List Nat:=
 o.op.operands.toList.filterMap (fun | .tmp t=>some t | _=>none)++
  (match o.guard with | some (j,_)=>(match all[j]? with | some oj=>oj.dst.toList | none=>[]) | none=>[])
def lN(all:Array Oper)(pm:List Nat):Bool:=
 (ag5 all.size).all fun i=>
  match all[i]? with
  | some oi=>
   match oi.dst with
   | some d=>
    (ag5 all.size).all fun j=>
     match all[j]? with
     | some oj=>i==j|| !((slotsOf all oj).contains d||oj.dst==some d)||(pm.getD j 0).testBit i||(pm.getD i 0).testBit j
     | none=>true
   | none=>true
  | none=>true
def Ay(all:Array Oper)(pm:List Nat):Bool:=
 (ag5 all.size).all fun p=>
  match all[p]? with
  | some o=>
   (o.after.toList.all fun e=> !ahh .any e||agT e.on p)&&
   ((ag5 all.size).all fun q=> !(pm.getD p 0).testBit q||o.after.toList.any fun e=>ahh .any e&&(q==e.on||(pm.getD e.on 0).testBit q))
  | none=>true
def EE(all:Array Oper)(i:Nat):Bool:=
 match all[i]? with
 | some o=>Op.quiet o.op
 | none=>false
def restrict(fr:List (Nat×SV))(slots:List Nat):List (Nat×SV):=fr.filter fun x=>slots.contains x.1
def kept(c:cF)(hp mQ:List Ck)(rd:List Nat):Bool:=
 rd.all fun j=>
  match hp[j]?,mQ[j]? with
  | some a,some b=>(match zg a b with | some l=>l.all (eT.trivial c) | none=>false)
  | none,_=>true
  | _,_=>false
def fW(st:St)(fn:Nat)(nt:NT)(fr:List (Nat×SV)):St:={st with fn:=fn,nt:=nt,fr:=fr}
def rj(st:St)(d:Option Nat):Bool:=
 match d with
 | some d=>agT d st.nt.n
 | none=>true
def pZ(C:Ctx)(g:Option BE)(st:St)(o:Oper):Option iC:=
 match dS C.T (Dx g st.known st.fr) st.hp st.aS.b st.aS.v o with
 | some res=>if res.sc st.aS then some res else none
 | none=>none
def Gg(C:Ctx)(g:Option BE)(st:St)(o:Oper):Option iC:=
 match g with
 | some (.lit false)=>some {val:= .undef}
 | g=>pZ C g st o
def gsc(c:cF):Option BE→Bool
 | some b=>b.sc c
 | none=>true
def Mo:Option BE→SV→SV
 | some c,v=> .opt c v
 | none,v=>v
def EC:Option BE→List BE→List BE→List BE
 | some _,_,k=>k
 | none,vcs,k=>more vcs k
def leave:List Ck→List MK→Option (List Ck)
 | hp,[]=>some hp
 | hp,.one d::ds=>
  match hp.findIdx? (Ck.D4 d)with
  | some i=>leave (hp.set i .emp) ds
  | none=>none
 | hp,.many d::ds=>
  match hp.findIdx? (Ck.xF d)with
  | some i=>leave (hp.set i .emp) ds
  | none=>none
def nV(st:St):Option St:=(leave st.hp st.nt.ds).map fun hp=>{st with hp:=hp}
def sJ(l:Nat):List KI→Option (Nat×Nat×NT×List (Nat×SV)×Array Tmp×Code×Code)
 | []=>none
 | .rf l' r fn nt fr ps x y _::k=>if l'==l then some (r,fn,nt,fr,ps,x,y)else sJ l k
 | _::k=>sJ l k
def Ck.isRec(l:Nat):Ck→Bool
 | .mg l' _ _ _=>l==l'
 | _=>false
def recAt(hp:List Ck)(l:Nat):Option (Nat×Nat×RS×Jump):=
 match hp.findIdx? (Ck.isRec l)with
 | some i=>
  match hp[i]? with
  | some (.mg _ r s j)=>some (i,r,s,j)
  | _=>none
 | none=>none
def mj(st:St):List (Nat×SV)→Option St
 | []=>some st
 | (d,v)::r=>if rj st (some d)&&v.sc st.aS then mj (st.put (some d) v) r else none
def QR(look:Nat→Option SV)(o:Oper):Option (Nat×List SV):=
 match o.op with
 | .call {callee:= .value f,args,.. }=>
  match jl look f,jV (args.toList.map (jl look))with
  | some (.LB l),some az=>some (l,az)
  | _,_=>none
 | _=>none
def run(C:Ctx):Nat→List KI→St→F
 | 0,_,_=> .fail "fuel"
 | _+1,[],_=> .fail "end"
 | n+1,.rT _::k,st=>run C n k st
 | n+1,.gh g::k,st=>
  match g st with
  | none=>run C n k st
  | some s=>
   match s.split with
   | some b=>if b.sc st.aS then .fork b (run C n (.gh g::k) {st with known:=b::st.known}) (run C n (.gh g::k) {st with known:=iT b::st.known})else .fail "scope"
   | none=>
   match s.pick with
   | some idx=>if idx.all (fun i=>agT i st.hp.length)&&decide idx.Nodup then run C n k {st with hp:=idx.map fun i=>st.hp.getD i .emp}else .fail "pick"
   | none=>
   let nL:=st.aS.add s.inc
   match nS s.slots st.fr with
   | some eqs=>
    if mH nL s.slots&&s.new.all (Ck.sc nL)&&s.use.all (fun i=>agT i st.hp.length)&&decide s.use.Nodup then
     .ghost (s.use.map fun i=>st.hp.getD i .emp) s.inc eqs s.new (run C n k {st with fr:=s.slots++st.fr.filter (fun x=> !(s.slots.any fun y=>y.1==x.1)),hp:=fS st.hp s.use s.new,aS:=nL})
    else .fail "scope"
   | none=> .fail "ghost"
 | n+1,.again body::k,st=>run C n (.code body:: .again body::k) st
 | _+1,.loop up nt c0 inc fr hp bk::_,st=>
  match uD C.T st bk with
  | none=> .fail "nil back"
  | some (st,nn)=>
  gn nn <|
  match nS fr st.fr,nT hp st.hp,mK nt.ds st.nt.ds with
  | some a,some b,some d=>if st.nt.n != nt.n then .fail "frame" else .back up c0 inc ((a++b++d).filter fun q=> !q.trivial c0)
  | _,_,none=> .fail "marks"
  | _,_,_=> .fail "back"
 | _+1,.jn _ up nt c0 inc fr hp pre::_,st=>
  match uD C.T st pre with
  | none=> .fail "nil join"
  | some (st,nn)=>
  gn nn <|
  match nS fr st.fr,nT hp st.hp,mK nt.ds st.nt.ds with
  | some a,some b,some d=>if st.nt.n != nt.n then .fail "frame" else .meet up c0 inc ((a++b++d).filter fun q=> !q.trivial c0)
  | _,_,none=> .fail "join marks"
  | none,_,_=> .fail "join slots"
  | _,_,_=> .fail "join"
 | n+1,.call fn nt fr d f::k,st=>
  match nV st with
  | some st=>
   match BD C.T st f with
   | some v=>if rj (fW st fn nt fr) d&&v.sc st.aS then run C n k ((fW st fn nt fr).put d v)else .fail "destination"
   | none=> .fail "results"
  | none=> .fail "marks"
 | _+1,.top f::_,st=>
  match nV st with
  | some st=>
   match BD C.T st f with
   | some v=> .ret v st.hp
   | none=> .fail "results"
  | none=> .fail "marks"
 | n+1,.code c::k,st=>
  match c with
  | .skip=>run C n k st
  | .label _=>run C n k st
  | .seq a b=>run C n (.code a:: .code b::k) st
  | .cond x t e=>
   match J1 st.fr st.known x with
   | some (.lit true)=>run C n (.code t::k) st
   | some (.lit false)=>run C n (.code e::k) st
   | some b=>if b.sc st.aS then .fork b (run C n (.code t::k) {st with known:=b::st.known}) (run C n (.code e::k) {st with known:=iT b::st.known})else .fail "scope"
   | none=> .fail "cond"
  | .block id b=>
   match C.iI st.fn id with
   | none=>run C n (.code b:: .rT id::k) st
   | some ja=>
    let ws:=writes b
    let slots:=ja.slots st.aS
    let H6:=slots++st.fr.filter fun x=> !(ws.contains x.1)&& !(slots.any fun y=>y.1==x.1)
    let mQ:=ja.hp st.aS st.hp
    let nL:=st.aS.add ja.inc
    let zz:NT:={st.nt with ds:=ja.ds st.aS st.nt.ds}
    if mH nL slots&&mQ.all (Ck.sc nL)&&slots.all (fun x=>agT x.1 st.nt.n)&&zz.ds.all (MK.sc nL)then
     .join (nl k) ja.inc (run C n (.code b:: .jn (some id) (nl k) zz st.aS ja.inc H6 mQ ja.pre::k) st) (run C n k {st with fr:=H6,hp:=mQ,aS:=nL,known:=[],nt:=zz})
    else .fail "scope"
  | .loop body=>
   match k with
   | .rT id::_=>
    match C.loops st.fn id with
    | none=>run C n (.code body:: .again body::k) st
    | some la=>
     match uD C.T st la.pre with
     | none=> .fail "nil" id
     | some (st,nn)=>
     gn nn <|
     let ws:=writes body
     let slots:=la.slots st.aS
     let H6:=slots++st.fr.filter fun x=> !(ws.contains x.1)&& !(slots.any fun y=>y.1==x.1)
     let mQ:=la.hp st.aS st.hp
     let nL:=st.aS.add la.inc
     let zz:NT:={st.nt with ds:=la.ds st.aS st.nt.ds}
     match nS slots st.fr,nT mQ st.hp,mK zz.ds st.nt.ds with
     | some a,some b,some d=>
      if mH nL slots&&mQ.all (Ck.sc nL)&&slots.all (fun x=>agT x.1 st.nt.n)&&zz.ds.all (MK.sc nL)then
       .loop (nl k) la.inc ((a++b++d).filter fun q=> !q.trivial st.aS)
        (run C n (.code body:: .loop (nl k) zz st.aS la.inc H6 mQ la.back::k) {st with fr:=H6,hp:=mQ,aS:=nL,known:=[],nt:=zz})
      else .fail "scope"
     | _,_,_=> .fail "loop entry" id
   | _=>run C n (.code body:: .again body::k) st
  | .exit id=>match dB id k with
   | some k'=>run C n k' st
   | none=> .fail "exit" id
  | .ret=>match gM k with
   | some k'=>run C n k' st
   | none=> .fail "ret"
  | .region id ops false=>
   match C.jq st.fn id with
   | none=>run C n (.ops ops ops.toList::k) st
   | some g=>run C n (.ops ops ops.toList:: .gh g::k) st
  | .region id ops true=>
   let pm:=QQ ops (ag5 ops.size) []
   if lN ops pm&&Ay ops pm then
    match C.iI st.fn (id+100000)with
    | some ja=>
     let slots:=ja.slots st.aS
     let H6:=slots++st.fr.filter fun x=> !((writes (.region id ops true)).contains x.1)&& !(slots.any fun y=>y.1==x.1)
     let mQ:=ja.hp st.aS st.hp
     let nL:=st.aS.add ja.inc
     let zz:NT:={st.nt with ds:=ja.ds st.aS st.nt.ds}
     if mH nL slots&&mQ.all (Ck.sc nL)&&slots.all (fun x=>agT x.1 st.nt.n)&&zz.ds.all (MK.sc nL)then
      .join (nl k) ja.inc (run C n (.ug ops pm (ag5 ops.size) 0 []:: .gh ja.gh:: .jn none (nl k) zz st.aS ja.inc H6 mQ ja.pre::k) st) (run C n k {st with fr:=H6,hp:=mQ,aS:=nL,known:=[],nt:=zz})
     else .fail "scope"
    | none=>
    match C.jq st.fn id with
    | none=>run C n (.ug ops pm (ag5 ops.size) 0 []::k) st
    | some g=>run C n (.ug ops pm (ag5 ops.size) 0 []:: .gh g::k) st
   else .fail "order"
  | .rangeFunc g ps x y=>
   match jl (look st.fr) g with
   | some (.fn f kp)=>
    match C.FT.find? fun x=>x.1==f with
    | none=> .fail "call" f
    | some (_,fd)=>
     match fd.body with
     | none=> .fail "no body" f
     | some c=>
      if SV.qz st.aS kp then
       match around k with
       | none=>
        .wD true (run C n (.code c:: .rf (st.aS.b+1) st.aS.r st.fn ⟨st.nt.n,.one st.aS.b::st.nt.ds⟩ st.fr ps x y fd::k)
         (fW {st with hp:=st.hp++[.Mb st.aS.b]++[.mg (st.aS.b+1) st.aS.r .ready .none],aS:={st.aS with b:=st.aS.b+2,r:=st.aS.r+1}} f ⟨fd.ntmps,[]⟩ (eP 0 (.LB (st.aS.b+1)::kp))))
       | some l0=>
        match recAt st.hp l0 with
        | some _=>
         .wD false (run C n (.code c:: .rf st.aS.b st.aS.r st.fn st.nt st.fr ps x y fd::k)
          (fW {st with hp:=st.hp++[.mg st.aS.b st.aS.r .ready .none],aS:={st.aS with b:=st.aS.b+1,r:=st.aS.r+1}} f ⟨fd.ntmps,[]⟩ (eP 0 (.LB st.aS.b::kp))))
        | none=> .fail "round"
      else .fail "scope"
   | _=> .fail "range over what"
  | _=> .fail "code"
 | n+1,.ops _ []::k,st=>run C n k st
 | n+1,.ops all (o::rest)::k,st=>
  if rj st o.dst then
  match si all st.fr st.known o with
  | none=> .fail "guard" (st.fn*1000+o.dst.getD 0)
  | some (some (.lit false))=>run C n (.ops all rest::k) (st.put o.dst .undef)
  | some (some c)=>
   if c.sc st.aS then
    match pZ C (some c) st o with
    | some res=>
     match res.ij with
     | .none=>rP (some c) res.vcs st.known (run C n (.ops all rest::k) (st.put o.dst (.opt c res.val)))
     | _=> .fork c (run C n (.ops all ({o with guard:=none}::rest)::k) (st.J0 c)) (run C n (.ops all rest::k) ((st.sR c).put o.dst .undef))
    | none=> .fork c (run C n (.ops all ({o with guard:=none}::rest)::k) (st.J0 c)) (run C n (.ops all rest::k) ((st.sR c).put o.dst .undef))
   else .fail "scope"
  | some none=>
   match pZ C none st o with
   | some res=>
    let nx:=run C n (.ops all rest::k) (({dA st res.ij with known:=more res.vcs st.known}).put o.dst res.val)
    rP none res.vcs st.known (match res.ij with | .new _=> .yL nx | .app .. => .zR nx | .own .. => .zR nx | .F1 .. => .zR nx | _=>nx)
   | none=>
    match BG (look st.fr) o with
    | some (f,az)=>
     match C.FT.find? fun x=>x.1==f with
     | none=> .fail "call" f
     | some (_,fd)=>
      match fd.body with
      | none=>
       match UC C st.fn (o.dst.getD 0) f with
       | some ca=>
        if(sH ca az st.hp st.aS).sc (st.aS.add ca.inc)&&(ca.new st.aS ((ca.use az st.hp).map fun i=>st.hp.getD i .emp)).all (Ck.sc (st.aS.add ca.inc))&&(ca.use az st.hp).all (fun i=>agT i st.hp.length)&&decide (ca.use az st.hp).Nodup then
         .ext f az ((ca.use az st.hp).map fun i=>st.hp.getD i .emp) ca.inc (sH ca az st.hp st.aS) (ca.new st.aS ((ca.use az st.hp).map fun i=>st.hp.getD i .emp))
          (run C n (.ops all rest::k) ({st with hp:=fS st.hp (ca.use az st.hp) (ca.new st.aS ((ca.use az st.hp).map fun i=>st.hp.getD i .emp)),aS:=st.aS.add ca.inc}.put o.dst (sH ca az st.hp st.aS)))
        else .fail "scope"
       | none=> .fail "no body" f
      | some c=>
       match Fi C f az st.hp with
       | some r=>
        if r.val.sc st.aS&&r.new.all (Ck.sc st.aS)&&r.use.all (fun i=>agT i st.hp.length)&&decide r.use.Nodup then
         rP none r.vcs st.known (run C n (.ops all rest::k) ({st with hp:=fS st.hp r.use r.new}.put o.dst r.val))
        else .fail "scope"
       | none=>
       match UC C st.fn (o.dst.getD 0) f with
       | some ca=>
        let use:=ca.use az st.hp
        let new:=ca.new st.aS (use.map fun i=>st.hp.getD i .emp)
        let v:=sH ca az st.hp st.aS
        let nL:=st.aS.add ca.inc
        if v.sc nL&&new.all (Ck.sc nL)&&use.all (fun i=>agT i st.hp.length)&&decide use.Nodup then
         .call f az (use.map fun i=>st.hp.getD i .emp) ca.inc v new (run C n (.ops all rest::k) ({st with hp:=fS st.hp use new,aS:=nL}.put o.dst v))
        else .fail "scope"
       | none=>
        if SV.qz st.aS az then run C n (.code c:: .call st.fn st.nt st.fr o.dst fd:: .ops all rest::k) (fW st f ⟨fd.ntmps,[]⟩ (eP 0 az))else .fail "scope"
    | none=>
    match QR (look st.fr) o with
    | some (l,az)=>
     match sJ l k,recAt st.hp l with
     | some (r,fn,nt,fr,ps,x,y),some (_,r',_,_)=>
      if r=r'&&az.length==ps.size then
       match mj (fW st fn ⟨nt.n,[]⟩ fr) (ps.toList.zip az)with
       | some mL=>run C n (.code x:: .begin l:: .code y:: .round l st.fn st.nt st.fr o.dst:: .ops all rest::k) mL
       | none=> .fail "slot"
      else .fail "yield"
     | _,_=> .fail "yield"
    | none=> .fail "op" (st.fn*1000+o.dst.getD 0)
  else .fail "slot"
 | n+1,.rf l _ fn nt fr _ _ _ fd::k,st=>
  match nV st with
  | some st=>
   match BD C.T st fd,recAt st.hp l with
   | some _,some (i,r,s,j)=>
    if s= .busy then .fail "busy" else
    match j with
    | .none=>run C n k (fW {st with hp:=st.hp.set i (.mg l r .exhausted j)} fn nt fr)
    | .ret=>run C n (.code .ret::k) (fW {st with hp:=st.hp.set i (.mg l r .exhausted j)} fn nt fr)
    | .exit id=>run C n (.code (.exit id)::k) (fW {st with hp:=st.hp.set i (.mg l r .exhausted j)} fn nt fr)
   | _,_=> .fail "results"
  | none=> .fail "marks"
 | n+1,.begin l::k,st=>
  match recAt st.hp l with
  | some (i,r,.ready,j)=>run C n k {st with hp:=st.hp.set i (.mg l r .busy j)}
  | _=> .fail "not ready"
 | n+1,.round l fn nt fr d::k,st=>run C n (.m9 l .none fn nt fr d::k) st
 | n+1,.m9 l j fn nt fr d::k,st=>
  match recAt st.hp l with
  | some (i,r,_,_)=>
   if rj (fW st fn nt fr) d then
    run C n k ((fW {st with hp:=st.hp.set i (.mg l r (if j= .none then .ready else .done) j)} fn nt fr).put d (.bool (.lit (decide (j= .none)))))
   else .fail "slot"
  | none=> .fail "record"
 | n+1,.ug all pm rest done log::k,st=>
  match rest with
  | []=>run C n k st
  | _=>
   match rest.find? fun i=>EE all i&&nf all done i with
   | some i=>
    match all[i]? with
    | some o=>
     if rj st o.dst then
      match si all (restrict st.fr (slotsOf all o)) st.known o with
      | none=> .fail "guard" i
      | some g=>
       if gsc st.aS g then
        match Gg C g {st with fr:=restrict st.fr (slotsOf all o)} o with
        | some res=>
         match res.ij with
         | .none=>
          rP g res.vcs st.known (run C n (.ug all pm (rest.filter fun j=>j != i) (done|||(1 <<< i)) ((i,res.rd)::log)::k)
           (({st with known:=EC g res.vcs st.known}).put o.dst (Mo g res.val)))
         | _=> .fail "effect" i
        | none=> .fail "quiet" i
       else .fail "scope"
     else .fail "slot"
    | none=> .fail "no op"
   | none=>
    Om ((rest.filter (nf all done)).map fun e=>
     match all[e]? with
     | some o=>
      if rj st o.dst then run C n (.ops all [o]:: .Oj all pm e rest done log st.fn st.nt st.fr st.hp st.aS::k) {st with fr:=restrict st.fr (slotsOf all o)}else .fail "slot"
     | none=> .fail "no op")
 | n+1,.Oj all pm e rest done log fn nt fr hp aS::k,st=>
  match all[e]? with
  | some o=>
   if(log.all fun x=>(pm.getD e 0).testBit x.1||kept aS hp st.hp x.2)&&st.nt==nt then
    match (match o.dst with | some d=>look st.fr d | none=>some .undef)with
    | some v=>run C n (.ug all pm (rest.filter fun j=>j != e) (done|||(1 <<< e)) log::k) ((fW st fn nt fr).put o.dst v)
    | none=> .fail "result"
   else .fail "read beside"
  | none=> .fail "no op"
def eE(C:Ctx)(f:Nat)(args:List SV)(hp:List Ck)(aS:cF)(fd:Func):F:=
 match fd.body with
 | some c=>if SV.qz aS args&&hp.all (Ck.sc aS)then run C 100000 [.code c,.top fd] {fn:=f,fr:=eP 0 args,hp:=hp,aS:=aS,nt:=⟨fd.ntmps,[]⟩}else .fail "scope"
 | none=> .fail "no body"
end Go.RX
