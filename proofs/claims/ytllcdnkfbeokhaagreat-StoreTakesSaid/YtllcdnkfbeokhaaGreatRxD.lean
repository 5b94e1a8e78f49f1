/- Executor. -/
import Derived.Test.YtllcdnkfbeokhaaGreatRxC
open Go.Region renaming binds → aq4
open Nat renaming blt → aqI
namespace Go.RX
def ct.add(a b:ct):ct:=⟨a.b+b.b,a.v+b.v,a.i+b.i,a.a+b.a,a.bo+b.bo,a.p+b.p,a.r+b.r⟩
inductive gx where
 | e (a b:E)
 | a (n:E) (a b:E)
 | af (a b:E)
 | b (a b:BE)
 | v (i j:Nat)
 | p (i j:Nat)
 | bl (i j:Nat)
 | rc (i j:Nat)
 deriving Repr
inductive F where
 | fail (s:String) (slot:Nat:=0)
 | vc (b:BE) (r:F)
 | fork (c:BE) (t e:F)
 | ret (v:SV) (hp:List Ck)
 | BQ (r:F)
 | uY (r:F)
 | Gb (r:F)
 | oZ (outer:Bool) (r:F)
 | call (f:Nat) (args:List SV) (use:List Ck) (inc:ct) (val:SV) (new:List Ck) (r:F)
 | ext (f:Nat) (args:List SV) (use:List Ck) (inc:ct) (val:SV) (new:List Ck) (r:F)
 | loop (up:Nat) (inc:ct) (eqs:List gx) (body:F)
 | back (up:Nat) (c0:ct) (inc:ct) (eqs:List gx)
 | join (up:Nat) (inc:ct) (body r:F)
 | meet (up:Nat) (c0:ct) (inc:ct) (eqs:List gx)
 | ghost (use:List Ck) (inc:ct) (eqs:List gx) (new:List Ck) (r:F)
 | both (a b:F)
 deriving Inhabited
def MS:List F→F
 | []=> .fail "none"
 | [x]=>x
 | x::y::r=> .both x (MS (y::r))
def E.sc(c:ct):E→Bool
 | .lit _=>true
 | .var i=>aqI i c.i
 | .cI i=>aqI i c.a
 | .Qk a i=>a.sc c&&i.sc c
 | .bin _ _ a b=>a.sc c&&b.sc c
 | .wrap _ a=>a.sc c
 | .m7 a i v=>a.sc c&&i.sc c&&v.sc c
 | .shift a o=>a.sc c&&o.sc c
 | .jl a o n b=>a.sc c&&o.sc c&&n.sc c&&b.sc c
 | .kc _ a=>a.sc c
 | .sA b=>aqI b c.b
 | .pV _=>true
 | .QU a i=>a.sc c&&i.sc c
 | .qi a i s=>a.sc c&&i.sc c&&s.sc c
 | .TB s=>s.sc c
def BE.sc(c:ct):BE→Bool
 | .lit _=>true
 | .var i=>aqI i c.bo
 | .eq a b=>a.sc c&&b.sc c
 | .lt a b=>a.sc c&&b.sc c
 | .le a b=>a.sc c&&b.sc c
 | .nz a=>a.sc c
 | .TC _ a b=>a.sc c&&b.sc c
 | .not a=>a.sc c
 | .and a b=>a.sc c&&b.sc c
 | .or a b=>a.sc c&&b.sc c
 | .ite x t e=>x.sc c&&t.sc c&&e.sc c
 | .seq a b=>a.sc c&&b.sc c
 | .BP i=>aqI i c.v
def Cut.sc(c:ct)(k:Cut):Bool:=k.lo.sc c&&k.hi.sc c&&(match k.mx with | some m=>m.sc c | none=>true)
mutual
def SV.sc(c:ct):SV→Bool
 | .int _ e=>e.sc c
 | .bool b=>b.sc c
 | .ptr b _=>aqI b c.b
 | .pX b i _ _=>aqI b c.b&&i.sc c
 | .pv v i _ _=>aqI v c.v&&i.sc c
 | .sl b i _ n m=>aqI b c.b&&i.sc c&&n.sc c&&m.sc c
 | .vv i=>aqI i c.v
 | .fn _ iR=>SV.pN c iR
 | .fm _ iR=>SV.pN c iR
 | .agg cs=>SV.pN c cs
 | .cQ _ _ a=>a.sc c
 | .nO vs=>SV.pN c vs
 | .opt b v=>b.sc c&&v.sc c
 | .Dx _ i=>i.sc c
 | .Jq l=>aqI l c.b
 | .mp b=>aqI b c.b
 | .jo v cs _=>aqI v c.v&&cs.all (Cut.sc c)
 | .ji e=>e.sc c
 | .Ia e=>e.sc c
 | .lD e=>e.sc c
 | .Ga b v=>b.sc c&&aqI v c.v
 | .Mk _ _ e=>e.sc c
 | .QV _ b _=>aqI b c.b
 | .Ml v i _ _ _=>aqI v c.v&&i.sc c
 | _=>true
def SV.pN(c:ct):List SV→Bool
 | []=>true
 | v::r=>v.sc c&&SV.pN c r
end
def CK.sc(c:ct):CK→Bool
 | .FP l=>l.all fun n=>aqI n c.v
 | .pt i v=>i.sc c&&aqI v c.v
 | _=>true
def bL.sc(c:ct)(k:bL):Bool:=k.a.sc c&&k.ck.sc c
def Ck.sc(c:ct):Ck→Bool
 | .emp=>true
 | .row b _ cs=>aqI b c.b&&SV.pN c cs
 | .cr _ v _ _ n ay=>aqI v c.v&&n.sc c&&ay.all (bL.sc c)
 | .abs i=>aqI i c.p
 | .lG l r _ _=>aqI l c.b&&aqI r c.r
 | .JV b=>aqI b c.b
 | .tY b=>aqI b c.b
 | .map b _ _ _ zero has ay=>aqI b c.b&&SV.pN c zero&&has.sc c&&ay.all (bL.sc c)
 | .tM b _ _ _ zero es=>aqI b c.b&&SV.pN c zero&&es.all fun e=>SV.pN c e.2
 | .Ih b _ _ n a=>aqI b c.b&&n.sc c&&a.sc c
 | .LH b _ _=>aqI b c.b
 | .ME b m=>aqI b c.b&&aqI m c.b
def lW(c:ct)(fr:List (Nat×SV)):Bool:=fr.all fun x=>x.2.sc c
def yZ.sc(c:ct):yZ→Bool
 | .none=>true
 | .new (.row _ _ cs)=>SV.pN c cs
 | .new (.map _ _ _ _ zero has ay)=>SV.pN c zero&&has.sc c&&ay.all (bL.sc c)
 | .new (.tM _ _ _ _ zero es)=>SV.pN c zero&&es.all fun e=>SV.pN c e.2
 | .new (.Ih _ _ _ n a)=>n.sc c&&a.sc c
 | .new (.LH _ _ _)=>true
 | .new (.ME _ m)=>aqI m c.b
 | .set _ ck=>ck.sc c
 | .app _ (.cr _ _ _ _ n ay)=>n.sc c&&ay.all (bL.sc c)
 | .own (.cr _ _ _ _ n ay)=>n.sc c&&ay.all (bL.sc c)
 | .DM (.cr _ _ _ _ n ay)=>n.sc c&&ay.all (bL.sc c)
 | _=>false
def yZ.grow(c:ct):yZ→ct
 | .new _=>{c with b:=c.b+1}
 | .app .. =>{c with v:=c.v+1}
 | .own .. =>{c with v:=c.v+1}
 | .DM .. =>{c with v:=c.v+1}
 | _=>c
def gY.sc(c:ct)(r:gY):Bool:=r.val.sc (r.gZ.grow c)&&r.vcs.all (BE.sc c)&&r.gZ.sc c
inductive MK where
 | one (b:Nat)
 | many (b:Nat)
 deriving DecidableEq,Repr
def MK.sc(c:ct):MK→Bool
 | .one b=>aqI b c.b
 | .many b=>aqI b c.b
def mi:List MK→List MK→Option (List gx)
 | [],[]=>some []
 | .one b::r,.one b'::r'=>(mi r r').map (.bl b b':: ·)
 | .many b::r,.many b'::r'=>(mi r r').map (.bl b b':: ·)
 | _,_=>none
structure NT where
 n:Nat:=0
 ds:List MK:=[]
 deriving DecidableEq,Repr,Inhabited
structure St where
 fn:Nat:=0
 fr:List (Nat×SV):=[]
 hp:List Ck:=[]
 aW:ct:={}
 known:List BE:=[]
 nt:NT:={}
 deriving Inhabited
def look(fr:List (Nat×SV))(s:Nat):Option SV:=
 match fr with
 | []=>none
 | (t,v)::r=>if t==s then some v else look r s
def St.put(st:St)(d:Option Nat)(v:SV):St:=
 match d with
 | some d=>{st with fr:=(d,v)::st.fr.filter fun x=> !(x.1==d)}
 | none=>st
structure aI where
 use:List SV→List Ck→List Nat
 inc:ct:={}
 val:ct→SV
 new:ct→List Ck→List Ck
 valOf:Option (List SV→List Ck→SV):=none
def rH(ca:aI)(az:List SV)(hp:List Ck)(c:ct):SV:=
 match ca.valOf with
 | some g=>g az hp
 | none=>ca.val c
inductive sr where
 | slot (s t:Nat)
 | cell (i j t:Nat)
 | cut (s:Nat) (md:Bool)
 | pw (i j:Nat) (md:Bool)
 | marks
 | mark
 | swap (s i:Nat)
 | own (s t:Nat)
structure ei where
 pre:List sr:=[]
 inc:ct:={}
 aU:ct→List (Nat×SV)
 hp:ct→List Ck→List Ck:=fun _ h=>h
 back:List sr:=[]
 ds:ct→List MK→List MK:=fun _ d=>d
structure dH where
 split:Option BE:=none
 pick:Option (List Nat):=none
 use:List Nat:=[]
 inc:ct:={}
 aU:List (Nat×SV):=[]
 new:List Ck:=[]
structure Tc where
 pre:List sr:=[]
 inc:ct:={}
 aU:ct→List (Nat×SV)
 hp:ct→List Ck→List Ck:=fun _ h=>h
 ds:ct→List MK→List MK:=fun _ d=>d
 gh:St→Option dH:=fun _=>none
inductive KI where
 | gh (g:St→Option dH)
 | code (c:Code)
 | ops (all:Array Oper) (rest:List Oper)
 | sP (all:Array Oper) (pm:List Nat) (rest:List Nat) (done:Nat) (log:List (Nat×List Nat))
 | MQ (all:Array Oper) (pm:List Nat) (e:Nat) (rest:List Nat) (done:Nat) (log:List (Nat×List Nat)) (fn:Nat) (nt:NT) (fr:List (Nat×SV)) (hp:List Ck) (aW:ct)
 | sA (id:Nat)
 | again (body:Code)
 | loop (up:Nat) (nt:NT) (c0:ct) (inc:ct) (fr:List (Nat×SV)) (hp:List Ck) (bk:List sr)
 | jn (id:Option Nat) (up:Nat) (nt:NT) (c0:ct) (inc:ct) (fr:List (Nat×SV)) (hp:List Ck) (pre:List sr)
 | call (fn:Nat) (nt:NT) (fr:List (Nat×SV)) (dst:Option Nat) (callee:Func)
 | rf (l r:Nat) (fn:Nat) (nt:NT) (fr:List (Nat×SV)) (ps:Array Tmp) (assign body:Code) (callee:Func)
 | begin (l:Nat)
 | round (l:Nat) (fn:Nat) (nt:NT) (fr:List (Nat×SV)) (dst:Option Nat)
 | mL (l:Nat) (j:Jump) (fn:Nat) (nt:NT) (fr:List (Nat×SV)) (dst:Option Nat)
 | top (callee:Func)
 deriving Inhabited
structure abG where
 val:SV
 vcs:List BE:=[]
 use:List Nat:=[]
 new:List Ck:=[]
structure Ctx where
 T:List TI
 FT:List (Nat×Func)
 calls:Nat→Nat→Option aI:=fun _ _=>none
 loops:Nat→Nat→Option ei:=fun _ _=>none
 Up:Nat→Nat→Option Tc:=fun _ _=>none
 mQ:Nat→Nat→Option (St→Option dH):=fun _ _=>none
 bj:Nat→Option aI:=fun _=>none
 pure:Nat→Option (List SV→List Ck→Option abG):=fun _=>none
def CY(C:Ctx)(f:Nat)(az:List SV)(hp:List Ck):Option abG:=
 match C.pure f with
 | some g=>g az hp
 | none=>none
def Uq(C:Ctx)(fn d f:Nat):Option aI:=
 match C.calls fn d with
 | some ca=>some ca
 | none=>C.bj f
def mu:List Cut→List Cut→Option (List gx)
 | [],[]=>some []
 | a::r,b::r'=>
  match a.mx,b.mx,mu r r' with
  | none,none,some x=>some (.e a.lo b.lo:: .e a.hi b.hi::x)
  | some m,some m',some x=>some (.e a.lo b.lo:: .e a.hi b.hi:: .e m m'::x)
  | _,_,_=>none
 | _,_=>none
mutual
def t_:SV→SV→Option (List gx)
 | .int k a,.int k' b=>if k=k' then some [.e a b]else none
 | .bool a,.bool b=>some [.b a b]
 | .cg,.cg=>some []
 | .bu,.bu=>some []
 | .jS,.jS=>some []
 | .ov,.ov=>some []
 | .m9,.m9=>some []
 | .undef,.undef=>some []
 | .ptr b c,.ptr b' c'=>if c=c' then some [.bl b b']else none
 | .pX b i s c,.pX b' i' s' c'=>if c=c'∧s=s' then some [.bl b b',.e i i']else none
 | .pv b i s c,.pv b' i' s' c'=>if c=c'∧s=s' then some [.v b b',.e i i']else none
 | .sl b i s n m,.sl b' i' s' n' m'=>if s=s' then some [.bl b b',.e i i',.e n n',.e m m']else none
 | .vv i,.vv j=>some [.v i j]
 | .str l,.str l'=>if l=l' then some []else none
 | .lD s,.lD s'=>some [.af s s']
 | .Ga c v,.Ga c' v'=>some [.b c c',.v v v']
 | .Mk t k e,.Mk t' k' e'=>if t=t'∧k=k' then some [.e e e']else none
 | .lD s,.str l=>some [.af s (Aw l)]
 | .fn f cs,.fn f' tI=>if f=f' then gq cs tI else none
 | .fm f cs,.fm f' tI=>if f=f' then gq cs tI else none
 | .agg cs,.agg tI=>gq cs tI
 | .cQ k n a,.cQ k' n' b=>if k=k'∧n=n' then some [.a (.lit n) a b]else none
 | .nO cs,.nO tI=>gq cs tI
 | .opt c v,.opt c' v'=>(t_ v v').map (.b c c':: ·)
 | .Jq l,.Jq l'=>some [.bl l l']
 | .mp l,.mp l'=>some [.bl l l']
 | .ji e,.ji e'=>some [.e e e']
 | .ji e,.ptr b o=>if o=0 then some [.e e (.sA b)]else none
 | .ji e,.cg=>some [.e e (.lit 0)]
 | .ptr b o,.ji e=>if o=0 then some [.e (.sA b) e]else none
 | .Ia e,.Ia e'=>some [.e e e']
 | .Ia e,.bu=>some [.e e (.lit 0)]
 | .jo v cs s,.jo v' tI s'=>if s=s' then(mu cs tI).map (.v v v':: ·)else none
 | _,_=>none
def gq:List SV→List SV→Option (List gx)
 | [],[]=>some []
 | a::r,b::r'=>match t_ a b,gq r r' with
  | some x,some y=>some (x++y)
  | _,_=>none
 | _,_=>none
end
def jJ(n:E):List bL→List bL→Option (List gx)
 | [],[]=>some []
 | a::r,b::r'=>
  match a.ck,b.ck with
  | .FP l,.FP l'=>if l.length=l'.length∧a.w=b.w then(jJ n r r').map ((l.zip l').map (fun x=>gx.v x.1 x.2)++ ·)else none
  | .pt _ _,_=>none
  | _,_=>if a.ck=b.ck∧a.w=b.w then(jJ n r r').map ((if a.ck= .str then .af a.a b.a else .a (ql n (.lit a.w)) a.a b.a):: ·)
   else if a.ck= .cv∧b.ck= .bu∧a.w=b.w then(jJ n r r').map (.a (ql n (.lit a.w)) a.a (.lit 0):: ·)else none
 | _,_=>none
def jC:List bL→List bL→Option (List gx)
 | [],[]=>some []
 | a::r,b::r'=>
  match a.ck,b.ck with
  | .FP _,_=>none
  | .pt i v,.pt j u=>if a.w=b.w then(jC r r').map (fun l=> .e i j:: .v v u:: .af a.a b.a::l)else none
  | .pt _ _,_=>none
  | _,_=>if a.ck=b.ck∧a.w=b.w then(jC r r').map (.af a.a b.a:: ·)else none
 | _,_=>none
def sO:Nat→List SV→List SV→List SV
 | 0,_,act=>act
 | f+1,.int _ _::p,.cQ k (m+1) a::r=> .int k (eu a (.lit 0))::sO f p (if m=0 then r else .cQ k m (kF a (.lit 1))::r)
 | f+1,.cQ k n _::p,x::r=>
  if SV.width x=n then x::sO f p r else
  match jy 0 n (x::r),gg n (x::r)with
  | some c,some d=>
   match rowOf c with
   | some (kl,e)=>if kl=List.replicate n k then .cQ k n e::sO f p d else x::r
   | none=>x::r
  | _,_=>x::r
 | f+1,_::p,x::r=>x::sO f p r
 | _+1,_,act=>act
def rq:List (Nat×List SV)→List (Nat×List SV)→Option (List gx)
 | [],[]=>some []
 | (i,v)::r,(j,u)::r'=>if i=j then(match gq v u,rq r r' with
  | some x,some y=>some (x++y)
  | _,_=>none)else none
 | _,_=>none
def xT:Ck→Ck→Option (List gx)
 | .emp,.emp=>some []
 | .row b w cs,.row b' w' tI=>if w=w' then(gq cs (sO 200 cs tI)).map (.bl b b':: ·)else none
 | .cr md v t s n ay,.cr md' v' t' s' n' aN=>if md=md'∧t=t'∧s=s' then(jJ n ay aN).map fun r=> .v v v':: .e n n'::r else none
 | .abs i,.abs j=>some [.p i j]
 | .lG l r s j,.lG l' r' s' j'=>if s=s'∧j=j' then some [.bl l l',.rc r r']else none
 | .JV b,.JV b'=>some [.bl b b']
 | .tY b,.tY b'=>some [.bl b b']
 | .map b kl ka va z has ay,.map b' HL ka' va' z' zQ aN=>
  if kl=HL∧ka=ka'∧va=va' then
   match gq z z',jC ay aN with
   | some x,some y=>some (.bl b b':: .af has zQ::(x++y))
   | _,_=>none
  else none
 | .tM b kl ka va z es,.tM b' HL ka' va' z' AG=>
  if kl=HL∧ka=ka'∧va=va' then
   match gq z z',rq es AG with
   | some x,some y=>some (.bl b b'::(x++y))
   | _,_=>none
  else none
 | .Ih b t e n a,.Ih b' t' e' n' a'=>if t=t'∧e=e' then some [.bl b b',.e n n',.a n a a']else none
 | .LH b l p,.LH b' l' p'=>if l=l'∧p=p' then some [.bl b b']else none
 | .ME b m,.ME b' m'=>some [.bl b b',.bl m m']
 | _,_=>none
def nA:List Ck→List Ck→Option (List gx)
 | [],_=>some []
 | a::r,b::r'=>match xT a b,nA r r' with
  | some x,some y=>some (x++y)
  | _,_=>none
 | _::_,[]=>none
def ny(pat act:List (Nat×SV)):Option (List gx):=
 match pat with
 | []=>some []
 | (s,v)::r=>match look act s,ny r act with
  | some v',some y=>(t_ v v').map (· ++y)
  | _,_=>none
def gx.trivial(c:ct):gx→Bool
 | .e x y=>x==y&&x.sc c
 | .a n x y=>x==y&&x.sc c&&n.sc c
 | .b x y=>x==y&&x.sc c
 | .af x y=>x==y&&x.sc c
 | .v i j=>i==j&&aqI i c.v
 | .p i j=>i==j&&aqI i c.p
 | .bl i j=>i==j&&aqI i c.b
 | .rc i j=>i==j&&aqI i c.r
def writes:Code→List Nat
 | .region _ ops _=>ops.toList.filterMap (·.dst)
 | .seq a b=>writes a++writes b
 | .cond _ a b=>writes a++writes b
 | .block _ b=>writes b
 | .loop b=>writes b
 | .scope b=>writes b
 | .rangeFunc _ ps a b=>ps.toList++writes a++writes b
 | _=>[]
def dL(id:Nat):List KI→Option (List KI)
 | .sA i::k=>if i==id then some k else dL id k
 | .again _::k=>dL id k
 | .code _::k=>dL id k
 | .ops .. ::k=>dL id k
 | .loop .. ::k=>dL id k
 | .gh _::k=>dL id k
 | .jn i up nt c0 inc fr hp pre::k=>if i==some id then some (.jn i up nt c0 inc fr hp pre::k)else dL id k
 | .round l fn nt fr d::k=>some (.mL l (.exit id) fn nt fr d::k)
 | _=>none
def iq:List KI→Option (List KI)
 | .call fn nt fr d f::k=>some (.call fn nt fr d f::k)
 | .top f::k=>some (.top f::k)
 | .rf l r fn nt fr ps x y f::k=>some (.rf l r fn nt fr ps x y f::k)
 | .round l fn nt fr d::k=>some (.mL l .ret fn nt fr d::k)
 | .sA _::k=>iq k
 | .again _::k=>iq k
 | .code _::k=>iq k
 | .ops .. ::k=>iq k
 | .loop .. ::k=>iq k
 | .jn .. ::k=>iq k
 | .gh _::k=>iq k
 | _=>none
def zR:List KI→Option Nat
 | []=>none
 | .call .. ::_=>none
 | .top _::_=>none
 | .rf .. ::_=>none
 | .begin l::_=>some l
 | .round l .. ::_=>some l
 | _::k=>zR k
def nl:List KI→Nat
 | []=>0
 | .loop .. ::k=>nl k+1
 | .jn .. ::k=>nl k+1
 | _::k=>nl k
def CZ(T:List TI)(st:St):ResultVar→Option SV
 | .tmp t=>look st.fr t
 | .cell a t=>match aP T t,look st.fr a with
  | some ti,some x=>match xO st.hp ti.k.agg ti.size x with
   | some r=>if r.vcs.isEmpty then some r.val else none
   | none=>none
  | _,_=>none
def zS(T:List TI)(st:St)(fn:Func):Option SV:=
 match jB (fn.results.toList.map (CZ T st))with
 | some [v]=>some v
 | some vs=>some (.nO vs)
 | none=>none
def y8:Env:={}
def BE.sure(b:BE):Bool:=b.sc {}&&b.den y8
def more(vcs known:List BE):List BE:=vcs.filter (fun b=> !b.sure)++known
def Yx(g:Option BE)(b:BE):BE:=
 match g with
 | some c=>bOr (jT c) b
 | none=>b
def qT(g:Option BE):List BE→List BE→F→F
 | [],_,r=>r
 | b::bs,known,r=>if Yx g b== .lit true||known.contains (Yx g b)||(Yx g b).sure then qT g bs known r else .vc (Yx g b) (qT g bs known r)
def nX(ρ:Env):Option BE→Bool
 | some c=>c.den ρ
 | none=>true
def guardOf(all:Array Oper)(fr:List (Nat×SV))(o:Oper):Option (Option BE):=
 match o.guard with
 | none=>some none
 | some (j,want)=>
  match all[j]? with
  | some oj=>match oj.dst with
   | some d=>match look fr d with
    | some (.bool b)=>some (some (if want then b else jT b))
    | some (.opt c (.bool b))=>some (some (Ax c (if want then b else jT b)))
    | some .undef=>some (some (.lit false))
    | some (.opt _ .undef)=>some (some (.lit false))
    | _=>none
   | none=>none
  | none=>none
def dJ(st:St)(e:yZ):St:=
 match e with
 | .none=>st
 | .new ck=>{st with hp:=st.hp++[ck],aW:={st.aW with b:=st.aW.b+1}}
 | .set i ck=>{st with hp:=st.hp.set i ck}
 | .app i ck=>{st with hp:=st.hp.set i ck,aW:={st.aW with v:=st.aW.v+1}}
 | .own ck=>{st with hp:=st.hp++[ck],aW:={st.aW with v:=st.aW.v+1}}
 | .DM ck=>{st with hp:=st.hp++[ck],aW:={st.aW with v:=st.aW.v+1}}
def lp{α:Type}(e:α)(hp:List α):List Nat→List α→List α
 | i::r,c::cs=>lp e (hp.set i c) r cs
 | i::r,[]=>lp e (hp.set i e) r []
 | [],cs=>hp++cs
def gw(hp:List Ck)(use:List Nat)(new:List Ck):List Ck:=lp .emp hp use new
def I8(T:List TI)(st:St)(t:Nat):Option St:=
 match aP T t,vU T 30 t with
 | some ti,some ay=>if ay.all (bL.sc st.aW)then some {st with hp:=st.hp++[.cr true st.aW.v t ti.size (.lit 0) ay],aW:={st.aW with v:=st.aW.v+1}}else none
 | _,_=>none
inductive zT where
 | nil
 | cut (vcs:List BE)
 | sA
 | same
def zU(st:St)(x:SV)(md:Bool):Option (St×zT):=
 match gL st.hp x with
 | some r=>
  match iY r.p.lo r.ay with
  | some ay=>
   if r.s=bW r.ay∧(md=true→r.md=true)∧r.p.len.sc st.aW=true∧ay.all (bL.sc st.aW)=true then
    some ({st with hp:=st.hp.set r.j (.cr md st.aW.v r.t r.s r.p.len ay),aW:={st.aW with v:=st.aW.v+1}},.cut (r.vcs++ek (.lit 0) r.p.len))
   else none
  | none=>none
 | none=>none
def PW(st:St)(x:SV)(t:Nat):Option (St×zT):=
 match x with
 | .sl b i s n m=>
  match findAt st.hp b,eD i,eD n with
  | some (j,.row _ true cs),some 0,some q=>
   match rowOf cs with
   | some (ki::kl,a)=>
    if n=m∧s=1∧kl.length+1=q∧ki::kl=List.replicate q ki∧q≤140737488355328∧a.sc st.aW=true then
     some ({st with hp:=st.hp.set j (.cr true st.aW.v t 1 (.lit (q:Int)) [⟨.int ki,1,a⟩]),aW:={st.aW with v:=st.aW.v+1}},.cut [])
    else none
   | _=>none
  | _,_,_=>none
 | _=>none
def Ck.BJ(b:Nat):Ck→Bool
 | .JV b'=>b==b'
 | _=>false
def Ck.v_(b:Nat):Ck→Bool
 | .tY b'=>b==b'
 | _=>false
def swapAt(hp:List Ck)(i j:Nat):List Ck:=
 match hp[i]?,hp[j]? with
 | some d,some c=>(hp.set i c).set j d
 | _,_=>hp
def Xy(st:St)(s:Nat):Option Nat:=
 match look st.fr s with
 | some (.ptr b _)=>(findAt st.hp b).map (·.1)
 | some (.vv v)=>(ey st.hp v).map (·.1)
 | some (.sl b _ _ _ _)=>(findAt st.hp b).map (·.1)
 | _=>none
def er(T:List TI)(st:St)(x:sr):Option (St×zT):=
 match x with
 | .slot s t=>match look st.fr s with
  | some .bu=>(I8 T st t).map fun dO=>(dO.put (some s) (.vv st.aW.v),.nil)
  | _=>none
 | .cell i j t=>match st.hp[i]? with
  | some (.row b w cs)=>match cs[j]? with
   | some .bu=>(I8 T st t).map fun dO=>({dO with hp:=dO.hp.set i (.row b w (cs.set j (.vv st.aW.v)))},.nil)
   | _=>none
  | _=>none
 | .cut s md=>match look st.fr s with
  | some x=>(zU st x md).map fun y=>(y.1.put (some s) (.vv st.aW.v),y.2)
  | none=>none
 | .pw i j md=>match st.hp[i]? with
  | some (.row b w cs)=>match cs[j]? with
   | some x=>match zU st x md with
    | some (dO,wr)=>match dO.hp[i]? with
     | some (.row b' w' _)=>if b'=b∧w'=w then some ({dO with hp:=dO.hp.set i (.row b w (cs.set j (.vv st.aW.v)))},wr)else none
     | _=>none
    | none=>none
   | none=>none
  | _=>none
 | .marks=>some ({st with nt:={st.nt with ds:= .many st.aW.b::st.nt.ds},hp:=st.hp++[.tY st.aW.b],aW:={st.aW with b:=st.aW.b+1}},.sA)
 | .mark=>match st.nt.ds with
  | .one b:: .many c::ds=>match st.hp.findIdx? (Ck.BJ b),st.hp.findIdx? (Ck.v_ c)with
   | some i,some j=>some ({st with nt:={st.nt with ds:= .many st.aW.b::ds},hp:=(st.hp.set i .emp).set j (.tY st.aW.b),aW:={st.aW with b:=st.aW.b+1}},.sA)
   | _,_=>none
  | .many _::_=>some (st,.same)
  | _=>none
 | .own s t=>match look st.fr s with
  | some x=>(PW st x t).map fun y=>(y.1.put (some s) (.vv st.aW.v),y.2)
  | none=>none
 | .swap s i=>match Xy st s with
  | some j=>some ({st with hp:=swapAt st.hp i j},.same)
  | none=>none
def tg(T:List TI):St→List sr→Option (St×List zT)
 | st,[]=>some (st,[])
 | st,x::r=>match er T st x with
  | some (dO,y)=>match tg T dO r with
   | some (s2,k)=>some (s2,y::k)
   | none=>none
  | none=>none
def vcF:List BE→F→F
 | [],f=>f
 | b::r,f=> .vc b (vcF r f)
def gT:List zT→F→F
 | [],f=>f
 | .nil::r,f=> .Gb (gT r f)
 | .sA::r,f=> .BQ (gT r f)
 | .same::r,f=>gT r f
 | .cut vcs::r,f=>vcF vcs (.uY (gT r f))
def zV(look:Nat→Option SV)(o:Oper):Option (Nat×List SV):=
 match o.op with
 | .call {callee:= .value f,args,.. }=>
  match jA look f,jB (args.toList.map (jA look))with
  | some (.fn f iR),some az=>some (f,az++iR)
  | some (.fm f first),some az=>some (f,first++az)
  | _,_=>none
 | _=>none
def fc(n:Nat):List SV→List (Nat×SV)
 | []=>[]
 | v::r=>(n,v)::fc (n+1) r
def rI(known:List BE)(b:BE):BE:=
 match b with
 | .lit x=> .lit x
 | b=>if b.sc {}then .lit (b.den y8)else if known.contains b then .lit true else if known.contains (jT b)then .lit false else b
def SV.HM(c:BE):SV→SV
 | .opt c' v=>
  if c'=c then v else
  match c' with
  | .and a b=>if a=c then .opt b v else .opt (.and a b) v
  | c'=> .opt c' v
 | .bool b=>if b=c then .bool (.lit true)else .bool b
 | v=>v
def SV.rU(c:BE):SV→SV
 | .opt c' v=>
  if c'=c then .undef else
  match c' with
  | .and a b=>if a=c then .undef else .opt (.and a b) v
  | c'=> .opt c' v
 | .bool b=>if b=c then .bool (.lit false)else .bool b
 | v=>v
def St.HM(c:BE)(st:St):St:={st with fr:=st.fr.map fun x=>(x.1,x.2.HM c),known:=c::st.known}
def St.rU(c:BE)(st:St):St:={st with fr:=st.fr.map fun x=>(x.1,x.2.rU c),known:=jT c::st.known}
def under(c:BE)(lk:Nat→Option SV)(s:Nat):Option SV:=
 match lk s with
 | some (.opt c' v)=>
  if c'=c then some v else
  match c' with
  | .and a b=>if a=c then some (.opt b v)else some (.opt (.and a b) v)
  | c'=>some (.opt c' v)
 | x=>x
def HN(fr:List (Nat×SV))(known:List BE)(x:Operand):Option BE:=
 match jA (look fr) x with
 | some (.bool b)=>some (rI known b)
 | _=>none
def ry(all:Array Oper)(fr:List (Nat×SV))(known:List BE)(o:Oper):Option (Option BE):=
 match guardOf all fr o with
 | some (some b)=>match rI known b with
  | .lit true=>some none
  | b=>some (some b)
 | x=>x
def SV.fix(known:List BE):SV→SV
 | .opt c v=>match rI known c with
  | .lit true=>v
  | .lit false=> .undef
  | _=> .opt c v
 | .bool b=> .bool (rI known b)
 | v=>v
def SV.Xz(c:BE)(known:List BE):SV→SV
 | .bool b=>if known.contains (jT (Ax c b))then .bool (.lit false)else .bool b
 | .opt b v=>if known.contains (jT (Ax c b))then .undef else .opt b v
 | v=>v
def Bj(g:Option BE)(known:List BE)(fr:List (Nat×SV))(s:Nat):Option SV:=
 match g with
 | some c=>(under c (look fr) s).map fun v=>(v.fix known).Xz c known
 | none=>(look fr s).map (SV.fix known)
def Op.quiet:Op→Bool
 | .move _ | .assign _ | .pick .. | .build .. | .load .. | .nilCheck _ | .binOp .. | .unOp .. | .sliceToArrayPointer .. | .fieldAddr .. | .field .. | .indexAddr .. | .index .. | .extract .. | .makeFunc .. | .makeInterface .. | .slice .. | .lookup .. =>true
 | .convert a b _=> !(a==b)
 | .call {callee:= .builtin .len,.. }=>true
 | .call {callee:= .builtin .max,.. }=>true
 | .call {callee:= .builtin .min,.. }=>true
 | _=>false
def mO(all:Array Oper)(done:Nat)(i:Nat):Bool:=
 match all[i]? with
 | some o=>o.after.toList.all fun e=> !aq4 .any e||done.testBit e.on
 | none=>false
def PX(all:Array Oper):List Nat→List Nat→List Nat
 | [],acc=>acc
 | i::r,acc=>
  match all[i]? with
  | some o=>PX all r (acc++[o.after.toList.foldl (fun s e=>if aq4 .any e&&aqI e.on i then s|||(1 <<< e.on)|||acc.getD e.on 0 else s) 0])
  | none=>acc
def slotsOf(all:Array Oper)(o:Oper):List Nat:=
 o.op.operands.toList.filterMap (fun | .tmp t=>some t | _=>none)++
  (match o.guard with | some (j,_)=>(match all[j]? with | some oj=>oj.dst.toList | none=>[]) | none=>[])
def lu(all:Array Oper)(pm:List Nat):Bool:=
 (List.range all.size).all fun i=>
  match all[i]? with
  | some oi=>
   match oi.dst with
   | some d=>
    (List.range all.size).all fun j=>
     match all[j]? with
     | some oj=>i==j|| !((slotsOf all oj).contains d||oj.dst==some d)||(pm.getD j 0).testBit i||(pm.getD i 0).testBit j
     | none=>true
   | none=>true
  | none=>true
def yX(all:Array Oper)(pm:List Nat):Bool:=
 (List.range all.size).all fun p=>
  match all[p]? with
  | some o=>
   (o.after.toList.all fun e=> !aq4 .any e||aqI e.on p)&&
   ((List.range all.size).all fun q=> !(pm.getD p 0).testBit q||o.after.toList.any fun e=>aq4 .any e&&(q==e.on||(pm.getD e.on 0).testBit q))
  | none=>true
def Cc(all:Array Oper)(i:Nat):Bool:=
 match all[i]? with
 | some o=>Op.quiet o.op
 | none=>false
def restrict(fr:List (Nat×SV))(aU:List Nat):List (Nat×SV):=fr.filter fun x=>aU.contains x.1
def kept(c:ct)(hp mr:List Ck)(rd:List Nat):Bool:=
 rd.all fun j=>
  match hp[j]?,mr[j]? with
  | some a,some b=>(match xT a b with | some l=>l.all (gx.trivial c) | none=>false)
  | none,_=>true
  | _,_=>false
def gE(st:St)(fn:Nat)(nt:NT)(fr:List (Nat×SV)):St:={st with fn:=fn,nt:=nt,fr:=fr}
def qB(st:St)(d:Option Nat):Bool:=
 match d with
 | some d=>aqI d st.nt.n
 | none=>true
def pj(C:Ctx)(g:Option BE)(st:St)(o:Oper):Option gY:=
 match dR C.T (Bj g st.known st.fr) st.hp st.aW.b st.aW.v o with
 | some res=>if res.sc st.aW then some res else none
 | none=>none
def D0(C:Ctx)(g:Option BE)(st:St)(o:Oper):Option gY:=
 match g with
 | some (.lit false)=>some {val:= .undef}
 | g=>pj C g st o
def gsc(c:ct):Option BE→Bool
 | some b=>b.sc c
 | none=>true
def J2:Option BE→SV→SV
 | some c,v=> .opt c v
 | none,v=>v
def B9:Option BE→List BE→List BE→List BE
 | some _,_,k=>k
 | none,vcs,k=>more vcs k
def leave:List Ck→List MK→Option (List Ck)
 | hp,[]=>some hp
 | hp,.one d::ds=>
  match hp.findIdx? (Ck.BJ d)with
  | some i=>leave (hp.set i .emp) ds
  | none=>none
 | hp,.many d::ds=>
  match hp.findIdx? (Ck.v_ d)with
  | some i=>leave (hp.set i .emp) ds
  | none=>none
def nD(st:St):Option St:=(leave st.hp st.nt.ds).map fun hp=>{st with hp:=hp}
def rJ(l:Nat):List KI→Option (Nat×Nat×NT×List (Nat×SV)×Array Tmp×Code×Code)
 | []=>none
 | .rf l' r fn nt fr ps x y _::k=>if l'==l then some (r,fn,nt,fr,ps,x,y)else rJ l k
 | _::k=>rJ l k
def Ck.isRec(l:Nat):Ck→Bool
 | .lG l' _ _ _=>l==l'
 | _=>false
def recAt(hp:List Ck)(l:Nat):Option (Nat×Nat×RS×Jump):=
 match hp.findIdx? (Ck.isRec l)with
 | some i=>
  match hp[i]? with
  | some (.lG _ r s j)=>some (i,r,s,j)
  | _=>none
 | none=>none
def lI(st:St):List (Nat×SV)→Option St
 | []=>some st
 | (d,v)::r=>if qB st (some d)&&v.sc st.aW then lI (st.put (some d) v) r else none
def PY(look:Nat→Option SV)(o:Oper):Option (Nat×List SV):=
 match o.op with
 | .call {callee:= .value f,args,.. }=>
  match jA look f,jB (args.toList.map (jA look))with
  | some (.Jq l),some az=>some (l,az)
  | _,_=>none
 | _=>none
def run(C:Ctx):Nat→List KI→St→F
 | 0,_,_=> .fail "fuel"
 | _+1,[],_=> .fail "end"
 | n+1,.sA _::k,st=>run C n k st
 | n+1,.gh g::k,st=>
  match g st with
  | none=>run C n k st
  | some s=>
   match s.split with
   | some b=>if b.sc st.aW then .fork b (run C n (.gh g::k) {st with known:=b::st.known}) (run C n (.gh g::k) {st with known:=jT b::st.known})else .fail "scope"
   | none=>
   match s.pick with
   | some idx=>if idx.all (fun i=>aqI i st.hp.length)&&decide idx.Nodup then run C n k {st with hp:=idx.map fun i=>st.hp.getD i .emp}else .fail "pick"
   | none=>
   let nh:=st.aW.add s.inc
   match ny s.aU st.fr with
   | some eqs=>
    if lW nh s.aU&&s.new.all (Ck.sc nh)&&s.use.all (fun i=>aqI i st.hp.length)&&decide s.use.Nodup then
     .ghost (s.use.map fun i=>st.hp.getD i .emp) s.inc eqs s.new (run C n k {st with fr:=s.aU++st.fr.filter (fun x=> !(s.aU.any fun y=>y.1==x.1)),hp:=gw st.hp s.use s.new,aW:=nh})
    else .fail "scope"
   | none=> .fail "ghost"
 | n+1,.again body::k,st=>run C n (.code body:: .again body::k) st
 | _+1,.loop up nt c0 inc fr hp bk::_,st=>
  match tg C.T st bk with
  | none=> .fail "nil back"
  | some (st,nn)=>
  gT nn <|
  match ny fr st.fr,nA hp st.hp,mi nt.ds st.nt.ds with
  | some a,some b,some d=>if st.nt.n != nt.n then .fail "frame" else .back up c0 inc ((a++b++d).filter fun q=> !q.trivial c0)
  | _,_,none=> .fail "marks"
  | _,_,_=> .fail "back"
 | _+1,.jn _ up nt c0 inc fr hp pre::_,st=>
  match tg C.T st pre with
  | none=> .fail "nil join"
  | some (st,nn)=>
  gT nn <|
  match ny fr st.fr,nA hp st.hp,mi nt.ds st.nt.ds with
  | some a,some b,some d=>if st.nt.n != nt.n then .fail "frame" else .meet up c0 inc ((a++b++d).filter fun q=> !q.trivial c0)
  | _,_,none=> .fail "join marks"
  | none,_,_=> .fail "join slots"
  | _,_,_=> .fail "join"
 | n+1,.call fn nt fr d f::k,st=>
  match nD st with
  | some st=>
   match zS C.T st f with
   | some v=>if qB (gE st fn nt fr) d&&v.sc st.aW then run C n k ((gE st fn nt fr).put d v)else .fail "destination"
   | none=> .fail "results"
  | none=> .fail "marks"
 | _+1,.top f::_,st=>
  match nD st with
  | some st=>
   match zS C.T st f with
   | some v=> .ret v st.hp
   | none=> .fail "results"
  | none=> .fail "marks"
 | n+1,.code c::k,st=>
  match c with
  | .skip=>run C n k st
  | .label _=>run C n k st
  | .seq a b=>run C n (.code a:: .code b::k) st
  | .cond x t e=>
   match HN st.fr st.known x with
   | some (.lit true)=>run C n (.code t::k) st
   | some (.lit false)=>run C n (.code e::k) st
   | some b=>if b.sc st.aW then .fork b (run C n (.code t::k) {st with known:=b::st.known}) (run C n (.code e::k) {st with known:=jT b::st.known})else .fail "scope"
   | none=> .fail "cond"
  | .block id b=>
   match C.Up st.fn id with
   | none=>run C n (.code b:: .sA id::k) st
   | some ja=>
    let ws:=writes b
    let aU:=ja.aU st.aW
    let F7:=aU++st.fr.filter fun x=> !(ws.contains x.1)&& !(aU.any fun y=>y.1==x.1)
    let mr:=ja.hp st.aW st.hp
    let nh:=st.aW.add ja.inc
    let yh:NT:={st.nt with ds:=ja.ds st.aW st.nt.ds}
    if lW nh aU&&mr.all (Ck.sc nh)&&aU.all (fun x=>aqI x.1 st.nt.n)&&yh.ds.all (MK.sc nh)then
     .join (nl k) ja.inc (run C n (.code b:: .jn (some id) (nl k) yh st.aW ja.inc F7 mr ja.pre::k) st) (run C n k {st with fr:=F7,hp:=mr,aW:=nh,known:=[],nt:=yh})
    else .fail "scope"
  | .loop body=>
   match k with
   | .sA id::_=>
    match C.loops st.fn id with
    | none=>run C n (.code body:: .again body::k) st
    | some la=>
     match tg C.T st la.pre with
     | none=> .fail "nil" id
     | some (st,nn)=>
     gT nn <|
     let ws:=writes body
     let aU:=la.aU st.aW
     let F7:=aU++st.fr.filter fun x=> !(ws.contains x.1)&& !(aU.any fun y=>y.1==x.1)
     let mr:=la.hp st.aW st.hp
     let nh:=st.aW.add la.inc
     let yh:NT:={st.nt with ds:=la.ds st.aW st.nt.ds}
     match ny aU st.fr,nA mr st.hp,mi yh.ds st.nt.ds with
     | some a,some b,some d=>
      if lW nh aU&&mr.all (Ck.sc nh)&&aU.all (fun x=>aqI x.1 st.nt.n)&&yh.ds.all (MK.sc nh)then
       .loop (nl k) la.inc ((a++b++d).filter fun q=> !q.trivial st.aW)
        (run C n (.code body:: .loop (nl k) yh st.aW la.inc F7 mr la.back::k) {st with fr:=F7,hp:=mr,aW:=nh,known:=[],nt:=yh})
      else .fail "scope"
     | _,_,_=> .fail "loop entry" id
   | _=>run C n (.code body:: .again body::k) st
  | .exit id=>match dL id k with
   | some k'=>run C n k' st
   | none=> .fail "exit" id
  | .ret=>match iq k with
   | some k'=>run C n k' st
   | none=> .fail "ret"
  | .region id ops false=>
   match C.mQ st.fn id with
   | none=>run C n (.ops ops ops.toList::k) st
   | some g=>run C n (.ops ops ops.toList:: .gh g::k) st
  | .region id ops true=>
   let pm:=PX ops (List.range ops.size) []
   if lu ops pm&&yX ops pm then
    match C.Up st.fn (id+100000)with
    | some ja=>
     let aU:=ja.aU st.aW
     let F7:=aU++st.fr.filter fun x=> !((writes (.region id ops true)).contains x.1)&& !(aU.any fun y=>y.1==x.1)
     let mr:=ja.hp st.aW st.hp
     let nh:=st.aW.add ja.inc
     let yh:NT:={st.nt with ds:=ja.ds st.aW st.nt.ds}
     if lW nh aU&&mr.all (Ck.sc nh)&&aU.all (fun x=>aqI x.1 st.nt.n)&&yh.ds.all (MK.sc nh)then
      .join (nl k) ja.inc (run C n (.sP ops pm (List.range ops.size) 0 []:: .gh ja.gh:: .jn none (nl k) yh st.aW ja.inc F7 mr ja.pre::k) st) (run C n k {st with fr:=F7,hp:=mr,aW:=nh,known:=[],nt:=yh})
     else .fail "scope"
    | none=>
    match C.mQ st.fn id with
    | none=>run C n (.sP ops pm (List.range ops.size) 0 []::k) st
    | some g=>run C n (.sP ops pm (List.range ops.size) 0 []:: .gh g::k) st
   else .fail "order"
  | .rangeFunc g ps x y=>
   match jA (look st.fr) g with
   | some (.fn f iR)=>
    match C.FT.find? fun x=>x.1==f with
    | none=> .fail "call" f
    | some (_,fd)=>
     match fd.body with
     | none=> .fail "no body" f
     | some c=>
      if SV.pN st.aW iR then
       match zR k with
       | none=>
        .oZ true (run C n (.code c:: .rf (st.aW.b+1) st.aW.r st.fn ⟨st.nt.n,.one st.aW.b::st.nt.ds⟩ st.fr ps x y fd::k)
         (gE {st with hp:=st.hp++[.JV st.aW.b]++[.lG (st.aW.b+1) st.aW.r .ready .none],aW:={st.aW with b:=st.aW.b+2,r:=st.aW.r+1}} f ⟨fd.ntmps,[]⟩ (fc 0 (.Jq (st.aW.b+1)::iR))))
       | some l0=>
        match recAt st.hp l0 with
        | some _=>
         .oZ false (run C n (.code c:: .rf st.aW.b st.aW.r st.fn st.nt st.fr ps x y fd::k)
          (gE {st with hp:=st.hp++[.lG st.aW.b st.aW.r .ready .none],aW:={st.aW with b:=st.aW.b+1,r:=st.aW.r+1}} f ⟨fd.ntmps,[]⟩ (fc 0 (.Jq st.aW.b::iR))))
        | none=> .fail "round"
      else .fail "scope"
   | _=> .fail "range over what"
  | _=> .fail "code"
 | n+1,.ops _ []::k,st=>run C n k st
 | n+1,.ops all (o::rest)::k,st=>
  if qB st o.dst then
  match ry all st.fr st.known o with
  | none=> .fail "guard" (st.fn*1000+o.dst.getD 0)
  | some (some (.lit false))=>run C n (.ops all rest::k) (st.put o.dst .undef)
  | some (some c)=>
   if c.sc st.aW then
    match pj C (some c) st o with
    | some res=>
     match res.gZ with
     | .none=>qT (some c) res.vcs st.known (run C n (.ops all rest::k) (st.put o.dst (.opt c res.val)))
     | _=> .fork c (run C n (.ops all ({o with guard:=none}::rest)::k) (st.HM c)) (run C n (.ops all rest::k) ((st.rU c).put o.dst .undef))
    | none=> .fork c (run C n (.ops all ({o with guard:=none}::rest)::k) (st.HM c)) (run C n (.ops all rest::k) ((st.rU c).put o.dst .undef))
   else .fail "scope"
  | some none=>
   match pj C none st o with
   | some res=>
    let nx:=run C n (.ops all rest::k) (({dJ st res.gZ with known:=more res.vcs st.known}).put o.dst res.val)
    qT none res.vcs st.known (match res.gZ with | .new _=> .BQ nx | .app .. => .uY nx | .own .. => .uY nx | .DM .. => .uY nx | _=>nx)
   | none=>
    match zV (look st.fr) o with
    | some (f,az)=>
     match C.FT.find? fun x=>x.1==f with
     | none=> .fail "call" f
     | some (_,fd)=>
      match fd.body with
      | none=>
       match Uq C st.fn (o.dst.getD 0) f with
       | some ca=>
        if(rH ca az st.hp st.aW).sc (st.aW.add ca.inc)&&(ca.new st.aW ((ca.use az st.hp).map fun i=>st.hp.getD i .emp)).all (Ck.sc (st.aW.add ca.inc))&&(ca.use az st.hp).all (fun i=>aqI i st.hp.length)&&decide (ca.use az st.hp).Nodup then
         .ext f az ((ca.use az st.hp).map fun i=>st.hp.getD i .emp) ca.inc (rH ca az st.hp st.aW) (ca.new st.aW ((ca.use az st.hp).map fun i=>st.hp.getD i .emp))
          (run C n (.ops all rest::k) ({st with hp:=gw st.hp (ca.use az st.hp) (ca.new st.aW ((ca.use az st.hp).map fun i=>st.hp.getD i .emp)),aW:=st.aW.add ca.inc}.put o.dst (rH ca az st.hp st.aW)))
        else .fail "scope"
       | none=> .fail "no body" f
      | some c=>
       match CY C f az st.hp with
       | some r=>
        if r.val.sc st.aW&&r.new.all (Ck.sc st.aW)&&r.use.all (fun i=>aqI i st.hp.length)&&decide r.use.Nodup then
         qT none r.vcs st.known (run C n (.ops all rest::k) ({st with hp:=gw st.hp r.use r.new}.put o.dst r.val))
        else .fail "scope"
       | none=>
       match Uq C st.fn (o.dst.getD 0) f with
       | some ca=>
        let use:=ca.use az st.hp
        let new:=ca.new st.aW (use.map fun i=>st.hp.getD i .emp)
        let v:=rH ca az st.hp st.aW
        let nh:=st.aW.add ca.inc
        if v.sc nh&&new.all (Ck.sc nh)&&use.all (fun i=>aqI i st.hp.length)&&decide use.Nodup then
         .call f az (use.map fun i=>st.hp.getD i .emp) ca.inc v new (run C n (.ops all rest::k) ({st with hp:=gw st.hp use new,aW:=nh}.put o.dst v))
        else .fail "scope"
       | none=>
        if SV.pN st.aW az then run C n (.code c:: .call st.fn st.nt st.fr o.dst fd:: .ops all rest::k) (gE st f ⟨fd.ntmps,[]⟩ (fc 0 az))else .fail "scope"
    | none=>
    match PY (look st.fr) o with
    | some (l,az)=>
     match rJ l k,recAt st.hp l with
     | some (r,fn,nt,fr,ps,x,y),some (_,r',_,_)=>
      if r=r'&&az.length==ps.size then
       match lI (gE st fn ⟨nt.n,[]⟩ fr) (ps.toList.zip az)with
       | some mj=>run C n (.code x:: .begin l:: .code y:: .round l st.fn st.nt st.fr o.dst:: .ops all rest::k) mj
       | none=> .fail "slot"
      else .fail "yield"
     | _,_=> .fail "yield"
    | none=> .fail "op" (st.fn*1000+o.dst.getD 0)
  else .fail "slot"
 | n+1,.rf l _ fn nt fr _ _ _ fd::k,st=>
  match nD st with
  | some st=>
   match zS C.T st fd,recAt st.hp l with
   | some _,some (i,r,s,j)=>
    if s= .busy then .fail "busy" else
    match j with
    | .none=>run C n k (gE {st with hp:=st.hp.set i (.lG l r .exhausted j)} fn nt fr)
    | .ret=>run C n (.code .ret::k) (gE {st with hp:=st.hp.set i (.lG l r .exhausted j)} fn nt fr)
    | .exit id=>run C n (.code (.exit id)::k) (gE {st with hp:=st.hp.set i (.lG l r .exhausted j)} fn nt fr)
   | _,_=> .fail "results"
  | none=> .fail "marks"
 | n+1,.begin l::k,st=>
  match recAt st.hp l with
  | some (i,r,.ready,j)=>run C n k {st with hp:=st.hp.set i (.lG l r .busy j)}
  | _=> .fail "not ready"
 | n+1,.round l fn nt fr d::k,st=>run C n (.mL l .none fn nt fr d::k) st
 | n+1,.mL l j fn nt fr d::k,st=>
  match recAt st.hp l with
  | some (i,r,_,_)=>
   if qB (gE st fn nt fr) d then
    run C n k ((gE {st with hp:=st.hp.set i (.lG l r (if j= .none then .ready else .done) j)} fn nt fr).put d (.bool (.lit (decide (j= .none)))))
   else .fail "slot"
  | none=> .fail "record"
 | n+1,.sP all pm rest done log::k,st=>
  match rest with
  | []=>run C n k st
  | _=>
   match rest.find? fun i=>Cc all i&&mO all done i with
   | some i=>
    match all[i]? with
    | some o=>
     if qB st o.dst then
      match ry all (restrict st.fr (slotsOf all o)) st.known o with
      | none=> .fail "guard" i
      | some g=>
       if gsc st.aW g then
        match D0 C g {st with fr:=restrict st.fr (slotsOf all o)} o with
        | some res=>
         match res.gZ with
         | .none=>
          qT g res.vcs st.known (run C n (.sP all pm (rest.filter fun j=>j != i) (done|||(1 <<< i)) ((i,res.rd)::log)::k)
           (({st with known:=B9 g res.vcs st.known}).put o.dst (J2 g res.val)))
         | _=> .fail "effect" i
        | none=> .fail "quiet" i
       else .fail "scope"
     else .fail "slot"
    | none=> .fail "no op"
   | none=>
    MS ((rest.filter (mO all done)).map fun e=>
     match all[e]? with
     | some o=>
      if qB st o.dst then run C n (.ops all [o]:: .MQ all pm e rest done log st.fn st.nt st.fr st.hp st.aW::k) {st with fr:=restrict st.fr (slotsOf all o)}else .fail "slot"
     | none=> .fail "no op")
 | n+1,.MQ all pm e rest done log fn nt fr hp aW::k,st=>
  match all[e]? with
  | some o=>
   if(log.all fun x=>(pm.getD e 0).testBit x.1||kept aW hp st.hp x.2)&&st.nt==nt then
    match (match o.dst with | some d=>look st.fr d | none=>some .undef)with
    | some v=>run C n (.sP all pm (rest.filter fun j=>j != e) (done|||(1 <<< e)) log::k) ((gE st fn nt fr).put o.dst v)
    | none=> .fail "result"
   else .fail "read beside"
  | none=> .fail "no op"
def nZ(C:Ctx)(f:Nat)(args:List SV)(hp:List Ck)(aW:ct)(fd:Func):F:=
 match fd.body with
 | some c=>if SV.pN aW args&&hp.all (Ck.sc aW)then run C 100000 [.code c,.top fd] {fn:=f,fr:=fc 0 args,hp:=hp,aW:=aW,nt:=⟨fd.ntmps,[]⟩}else .fail "scope"
 | none=> .fail "no body"
end Go.RX
