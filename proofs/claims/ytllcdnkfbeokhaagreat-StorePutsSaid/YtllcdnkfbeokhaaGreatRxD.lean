/- Executor. -/
import Derived.Test.YtllcdnkfbeokhaaGreatRxC
open Go.Region renaming binds -> ayu
open Nat renaming blt -> ayo
namespace Go.RX
def cI.add(a b:cI):cI:=⟨a.b+b.b,a.v+b.v,a.i+b.i,a.a+b.a,a.bo+b.bo,a.p+b.p,a.r+b.r⟩
inductive iz where
 | e (a b:E)
 | a (n:E) (a b:E)
 | af (a b:E)
 | b (a b:BE)
 | v (i j:Nat)
 | p (i j:Nat)
 | bl (i j:Nat)
 | rc (i j:Nat)
 deriving Repr
inductive F where
 | fail (s:String) (slot:Nat:=0)
 | vc (b:BE) (r:F)
 | fork (c:BE) (t e:F)
 | ret (v:SV) (hp:List Ck)
 | Eh (r:F)
 | xw (r:F)
 | Js (r:F)
 | qP (outer:Bool) (r:F)
 | call (f:Nat) (args:List SV) (use:List Ck) (inc:cI) (val:SV) (new:List Ck) (r:F)
 | ext (f:Nat) (args:List SV) (use:List Ck) (inc:cI) (val:SV) (new:List Ck) (r:F)
 | loop (up:Nat) (inc:cI) (eqs:List iz) (body:F)
 | back (up:Nat) (c0:cI) (inc:cI) (eqs:List iz)
 | join (up:Nat) (inc:cI) (body r:F)
 | meet (up:Nat) (c0:cI) (inc:cI) (eqs:List iz)
 | ghost (use:List Ck) (inc:cI) (eqs:List iz) (new:List Ck) (r:F)
 | both (a b:F)
 deriving Inhabited
def Q1:List F->F
 | []=> .fail "none"
 | [x]=>x
 | x::y::r=> .both x (Q1 (y::r))
def E.sc(c:cI):E->Bool
 | .lit _=>true
 | .var i=>ayo i c.i
 | .cM i=>ayo i c.a
 | .Vh a i=>a.sc c&&i.sc c
 | .bin _ _ a b=>a.sc c&&b.sc c
 | .wrap _ a=>a.sc c
 | .oL a i v=>a.sc c&&i.sc c&&v.sc c
 | .shift a o=>a.sc c&&o.sc c
 | .jA a o n b=>a.sc c&&o.sc c&&n.sc c&&b.sc c
 | .kc _ a=>a.sc c
 | .uv b=>ayo b c.b
 | .tH _=>true
 | .VI a i=>a.sc c&&i.sc c
 | .rQ a i s=>a.sc c&&i.sc c&&s.sc c
 | .YC s=>s.sc c
def BE.sc(c:cI):BE->Bool
 | .lit _=>true
 | .var i=>ayo i c.bo
 | .eq a b=>a.sc c&&b.sc c
 | .lt a b=>a.sc c&&b.sc c
 | .le a b=>a.sc c&&b.sc c
 | .nz a=>a.sc c
 | .YD _ a b=>a.sc c&&b.sc c
 | .not a=>a.sc c
 | .and a b=>a.sc c&&b.sc c
 | .or a b=>a.sc c&&b.sc c
 | .ite x t e=>x.sc c&&t.sc c&&e.sc c
 | .seq a b=>a.sc c&&b.sc c
 | .Eg i=>ayo i c.v
def Cut.sc(c:cI)(k:Cut):Bool:=k.lo.sc c&&k.hi.sc c&&(match k.mx with | some m=>m.sc c | none=>true)
mutual
def SV.sc(c:cI):SV->Bool
 | .int _ e=>e.sc c
 | .bool b=>b.sc c
 | .ptr b _=>ayo b c.b
 | .rL b i _ _=>ayo b c.b&&i.sc c
 | .pv v i _ _=>ayo v c.v&&i.sc c
 | .sl b i _ n m=>ayo b c.b&&i.sc c&&n.sc c&&m.sc c
 | .vv i=>ayo i c.v
 | .fn _ jL=>SV.rF c jL
 | .fm _ jL=>SV.rF c jL
 | .agg cs=>SV.rF c cs
 | .jD _ _ a=>a.sc c
 | .oH vs=>SV.rF c vs
 | .opt b v=>b.sc c&&v.sc c
 | .Gb _ i=>i.sc c
 | .Nk l=>ayo l c.b
 | .mp b=>ayo b c.b
 | .kj v cs _=>ayo v c.v&&cs.all (Cut.sc c)
 | .j9 e=>e.sc c
 | .Jq e=>e.sc c
 | .nX e=>e.sc c
 | .Jp b v=>b.sc c&&ayo v c.v
 | .Qs _ _ e=>e.sc c
 | .VJ _ b _=>ayo b c.b
 | .Qt v i _ _ _=>ayo v c.v&&i.sc c
 | _=>true
def SV.rF(c:cI):List SV->Bool
 | []=>true
 | v::r=>v.sc c&&SV.rF c r
end
def CK.sc(c:cI):CK->Bool
 | .Lr l=>l.all λn=>ayo n c.v
 | .pt i v=>i.sc c&&ayo v c.v
 | _=>true
def bU.sc(c:cI)(k:bU):Bool:=k.a.sc c&&k.ck.sc c
def Ck.sc(c:cI):Ck->Bool
 | .emp=>true
 | .row b _ cs=>ayo b c.b&&SV.rF c cs
 | .cF _ v _ _ n aB=>ayo v c.v&&n.sc c&&aB.all (bU.sc c)
 | .abs i=>ayo i c.p
 | .mY l r _ _=>ayo l c.b&&ayo r c.r
 | .NP b=>ayo b c.b
 | .vT b=>ayo b c.b
 | .map b _ _ _ zero has aB=>ayo b c.b&&SV.rF c zero&&has.sc c&&aB.all (bU.sc c)
 | .vK b _ _ _ zero es=>ayo b c.b&&SV.rF c zero&&es.all λe=>SV.rF c e.2
 | .Lq b _ _ n a=>ayo b c.b&&n.sc c&&a.sc c
 | .PY b _ _=>ayo b c.b
 | .QN b m=>ayo b c.b&&ayo m c.b
def nF(c:cI)(fr:List (Nat×SV)):Bool:=fr.all λx=>x.2.sc c
def Bl.sc(c:cI):Bl->Bool
 | .none=>true
 | .new (.row _ _ cs)=>SV.rF c cs
 | .new (.map _ _ _ _ zero has aB)=>SV.rF c zero&&has.sc c&&aB.all (bU.sc c)
 | .new (.vK _ _ _ _ zero es)=>SV.rF c zero&&es.all λe=>SV.rF c e.2
 | .new (.Lq _ _ _ n a)=>n.sc c&&a.sc c
 | .new (.PY _ _ _)=>true
 | .new (.QN _ m)=>ayo m c.b
 | .set _ ck=>ck.sc c
 | .app _ (.cF _ _ _ _ n aB)=>n.sc c&&aB.all (bU.sc c)
 | .own (.cF _ _ _ _ n aB)=>n.sc c&&aB.all (bU.sc c)
 | .Gr (.cF _ _ _ _ n aB)=>n.sc c&&aB.all (bU.sc c)
 | _=>false
def Bl.grow(c:cI):Bl->cI
 | .new _=>{c with b:=c.b+1}
 | .app .. =>{c with v:=c.v+1}
 | .own .. =>{c with v:=c.v+1}
 | .Gr .. =>{c with v:=c.v+1}
 | _=>c
def jf.sc(c:cI)(r:jf):Bool:=r.val.sc (r.jE.grow c)&&r.vcs.all (BE.sc c)&&r.jE.sc c
inductive MK where
 | one (b:Nat)
 | many (b:Nat)
 deriving DecidableEq,Repr
def MK.sc(c:cI):MK->Bool
 | .one b=>ayo b c.b
 | .many b=>ayo b c.b
def nO:List MK->List MK->Option (List iz)
 | [],[]=>some []
 | .one b::r,.one b'::r'=>(nO r r').map (.bl b b':: ·)
 | .many b::r,.many b'::r'=>(nO r r').map (.bl b b':: ·)
 | _,_=>none
structure NT where
 n:Nat:=0
 ds:List MK:=[]
 deriving DecidableEq,Repr,Inhabited
structure St where
 fn:Nat:=0
 fr:List (Nat×SV):=[]
 hp:List Ck:=[]
 aY:cI:={}
 known:List BE:=[]
 nt:NT:={}
 deriving Inhabited
def look(fr:List (Nat×SV))(s:Nat):Option SV:=
 match fr with
 | []=>none
 | (t,v)::r=>if t==s then some v else look r s
def St.put(st:St)(d:Option Nat)(v:SV):St:=
 match d with
 | some d=>{st with fr:=(d,v)::st.fr.filter λx=> !(x.1==d)}
 | none=>st
structure aI where
 use:List SV->List Ck->List Nat
 inc:cI:={}
 val:cI->SV
 new:cI->List Ck->List Ck
 valOf:Option (List SV->List Ck->SV):=none
def tD(ca:aI)(az:List SV)(hp:List Ck)(c:cI):SV:=
 match ca.valOf with
 | some g=>g az hp
 | none=>ca.val c
inductive um where
 | slot (s t:Nat)
 | cell (i j t:Nat)
 | cut (s:Nat) (md:Bool)
 | rh (i j:Nat) (md:Bool)
 | marks
 | mark
 | swap (s i:Nat)
 | own (s t:Nat)
structure dA where
 pre:List um:=[]
 inc:cI:={}
 aQ:cI->List (Nat×SV)
 hp:cI->List Ck->List Ck:=λ_ h=>h
 back:List um:=[]
 ds:cI->List MK->List MK:=λ_ d=>d
structure cc where
 split:Option BE:=none
 pick:Option (List Nat):=none
 use:List Nat:=[]
 inc:cI:={}
 aQ:List (Nat×SV):=[]
 new:List Ck:=[]
structure Yq where
 pre:List um:=[]
 inc:cI:={}
 aQ:cI->List (Nat×SV)
 hp:cI->List Ck->List Ck:=λ_ h=>h
 ds:cI->List MK->List MK:=λ_ d=>d
 gh:St->Option cc:=λ_=>none
inductive KI where
 | gh (g:St->Option cc)
 | code (c:Code)
 | ops (all:Array Oper) (rest:List Oper)
 | uL (all:Array Oper) (pm:List Nat) (rest:List Nat) (done:Nat) (log:List (Nat×List Nat))
 | QZ (all:Array Oper) (pm:List Nat) (e:Nat) (rest:List Nat) (done:Nat) (log:List (Nat×List Nat)) (fn:Nat) (nt:NT) (fr:List (Nat×SV)) (hp:List Ck) (aY:cI)
 | uv (id:Nat)
 | again (body:Code)
 | loop (up:Nat) (nt:NT) (c0:cI) (inc:cI) (fr:List (Nat×SV)) (hp:List Ck) (bk:List um)
 | jn (id:Option Nat) (up:Nat) (nt:NT) (c0:cI) (inc:cI) (fr:List (Nat×SV)) (hp:List Ck) (pre:List um)
 | call (fn:Nat) (nt:NT) (fr:List (Nat×SV)) (dst:Option Nat) (callee:Func)
 | rf (l r:Nat) (fn:Nat) (nt:NT) (fr:List (Nat×SV)) (ps:Array Tmp) (assign body:Code) (callee:Func)
 | begin (l:Nat)
 | round (l:Nat) (fn:Nat) (nt:NT) (fr:List (Nat×SV)) (dst:Option Nat)
 | ot (l:Nat) (j:Jump) (fn:Nat) (nt:NT) (fr:List (Nat×SV)) (dst:Option Nat)
 | top (callee:Func)
 deriving Inhabited
structure aiu where
 val:SV
 vcs:List BE:=[]
 use:List Nat:=[]
 new:List Ck:=[]
structure Ctx where
 T:List TI
 FT:List (Nat×Func)
 calls:Nat->Nat->Option aI:=λ_ _=>none
 loops:Nat->Nat->Option dA:=λ_ _=>none
 ZI:Nat->Nat->Option Yq:=λ_ _=>none
 iN:Nat->Nat->Option (St->Option cc):=λ_ _=>none
 bj:Nat->Option aI:=λ_=>none
 pure:Nat->Option (List SV->List Ck->Option aiu):=λ_=>none
def FI(C:Ctx)(f:Nat)(az:List SV)(hp:List Ck):Option aiu:=
 match C.pure f with
 | some g=>g az hp
 | none=>none
def ZJ(C:Ctx)(fn d f:Nat):Option aI:=
 match C.calls fn d with
 | some ca=>some ca
 | none=>C.bj f
def nS:List Cut->List Cut->Option (List iz)
 | [],[]=>some []
 | a::r,b::r'=>
  match a.mx,b.mx,nS r r' with
  | none,none,some x=>some (.e a.lo b.lo:: .e a.hi b.hi::x)
  | some m,some m',some x=>some (.e a.lo b.lo:: .e a.hi b.hi:: .e m m'::x)
  | _,_,_=>none
 | _,_=>none
mutual
def vV:SV->SV->Option (List iz)
 | .int k a,.int k' b=>if k=k' then some [.e a b]else none
 | .bool a,.bool b=>some [.b a b]
 | .iy,.iy=>some []
 | .bW,.bW=>some []
 | .qK,.qK=>some []
 | .pT,.pT=>some []
 | .oM,.oM=>some []
 | .undef,.undef=>some []
 | .ptr b c,.ptr b' c'=>if c=c' then some [.bl b b']else none
 | .rL b i s c,.rL b' i' s' c'=>if c=c'/\s=s' then some [.bl b b',.e i i']else none
 | .pv b i s c,.pv b' i' s' c'=>if c=c'/\s=s' then some [.v b b',.e i i']else none
 | .sl b i s n m,.sl b' i' s' n' m'=>if s=s' then some [.bl b b',.e i i',.e n n',.e m m']else none
 | .vv i,.vv j=>some [.v i j]
 | .str l,.str l'=>if l=l' then some []else none
 | .nX s,.nX s'=>some [.af s s']
 | .Jp c v,.Jp c' v'=>some [.b c c',.v v v']
 | .Qs t k e,.Qs t' k' e'=>if t=t'/\k=k' then some [.e e e']else none
 | .nX s,.str l=>some [.af s (Gd l)]
 | .fn f cs,.fn f' qE=>if f=f' then ij cs qE else none
 | .fm f cs,.fm f' qE=>if f=f' then ij cs qE else none
 | .agg cs,.agg qE=>ij cs qE
 | .jD k n a,.jD k' n' b=>if k=k'/\n=n' then some [.a (.lit n) a b]else none
 | .oH cs,.oH qE=>ij cs qE
 | .opt c v,.opt c' v'=>(vV v v').map (.b c c':: ·)
 | .Nk l,.Nk l'=>some [.bl l l']
 | .mp l,.mp l'=>some [.bl l l']
 | .j9 e,.j9 e'=>some [.e e e']
 | .j9 e,.ptr b o=>if o=0 then some [.e e (.uv b)]else none
 | .j9 e,.iy=>some [.e e (.lit 0)]
 | .ptr b o,.j9 e=>if o=0 then some [.e (.uv b) e]else none
 | .Jq e,.Jq e'=>some [.e e e']
 | .Jq e,.bW=>some [.e e (.lit 0)]
 | .kj v cs s,.kj v' qE s'=>if s=s' then(nS cs qE).map (.v v v':: ·)else none
 | _,_=>none
def ij:List SV->List SV->Option (List iz)
 | [],[]=>some []
 | a::r,b::r'=>match vV a b,ij r r' with
  | some x,some y=>some (x++y)
  | _,_=>none
 | _,_=>none
end
def lg(n:E):List bU->List bU->Option (List iz)
 | [],[]=>some []
 | a::r,b::r'=>
  match a.ck,b.ck with
  | .Lr l,.Lr l'=>if l.length=l'.length/\a.w=b.w then(lg n r r').map ((l.zip l').map (λx=>iz.v x.1 x.2)++ ·)else none
  | .pt _ _,_=>none
  | _,_=>if a.ck=b.ck/\a.w=b.w then(lg n r r').map ((if a.ck= .str then .af a.a b.a else .a (rT n (.lit a.w)) a.a b.a):: ·)
   else if a.ck= .cv/\b.ck= .bW/\a.w=b.w then(lg n r r').map (.a (rT n (.lit a.w)) a.a (.lit 0):: ·)else none
 | _,_=>none
def kR:List bU->List bU->Option (List iz)
 | [],[]=>some []
 | a::r,b::r'=>
  match a.ck,b.ck with
  | .Lr _,_=>none
  | .pt i v,.pt j u=>if a.w=b.w then(kR r r').map (λl=> .e i j:: .v v u:: .af a.a b.a::l)else none
  | .pt _ _,_=>none
  | _,_=>if a.ck=b.ck/\a.w=b.w then(kR r r').map (.af a.a b.a:: ·)else none
 | _,_=>none
def uK:Nat->List SV->List SV->List SV
 | 0,_,act=>act
 | f+1,.int _ _::p,.jD k (m+1) a::r=> .int k (fc a (.lit 0))::uK f p (if m=0 then r else .jD k m (n_ a (.lit 1))::r)
 | f+1,.jD k n _::p,x::r=>
  if SV.width x=n then x::uK f p r else
  match kK 0 n (x::r),ib n (x::r)with
  | some c,some d=>
   match rowOf c with
   | some (kl,e)=>if kl=List.replicate n k then .jD k n e::uK f p d else x::r
   | none=>x::r
  | _,_=>x::r
 | f+1,_::p,x::r=>x::uK f p r
 | _+1,_,act=>act
def tg:List (Nat×List SV)->List (Nat×List SV)->Option (List iz)
 | [],[]=>some []
 | (i,v)::r,(j,u)::r'=>if i=j then(match ij v u,tg r r' with
  | some x,some y=>some (x++y)
  | _,_=>none)else none
 | _,_=>none
def Aa:Ck->Ck->Option (List iz)
 | .emp,.emp=>some []
 | .row b w cs,.row b' w' qE=>if w=w' then(ij cs (uK 200 cs qE)).map (.bl b b':: ·)else none
 | .cF md v t s n aB,.cF md' v' t' s' n' aS=>if md=md'/\t=t'/\s=s' then(lg n aB aS).map λr=> .v v v':: .e n n'::r else none
 | .abs i,.abs j=>some [.p i j]
 | .mY l r s j,.mY l' r' s' j'=>if s=s'/\j=j' then some [.bl l l',.rc r r']else none
 | .NP b,.NP b'=>some [.bl b b']
 | .vT b,.vT b'=>some [.bl b b']
 | .map b kl ka va z has aB,.map b' JH ka' va' z' A_ aS=>
  if kl=JH/\ka=ka'/\va=va' then
   match ij z z',kR aB aS with
   | some x,some y=>some (.bl b b':: .af has A_::(x++y))
   | _,_=>none
  else none
 | .vK b kl ka va z es,.vK b' JH ka' va' z' CW=>
  if kl=JH/\ka=ka'/\va=va' then
   match ij z z',tg es CW with
   | some x,some y=>some (.bl b b'::(x++y))
   | _,_=>none
  else none
 | .Lq b t e n a,.Lq b' t' e' n' a'=>if t=t'/\e=e' then some [.bl b b',.e n n',.a n a a']else none
 | .PY b l p,.PY b' l' p'=>if l=l'/\p=p' then some [.bl b b']else none
 | .QN b m,.QN b' m'=>some [.bl b b',.bl m m']
 | _,_=>none
def o6:List Ck->List Ck->Option (List iz)
 | [],_=>some []
 | a::r,b::r'=>match Aa a b,o6 r r' with
  | some x,some y=>some (x++y)
  | _,_=>none
 | _::_,[]=>none
def o5(pat act:List (Nat×SV)):Option (List iz):=
 match pat with
 | []=>some []
 | (s,v)::r=>match look act s,o5 r act with
  | some v',some y=>(vV v v').map (· ++y)
  | _,_=>none
def iz.trivial(c:cI):iz->Bool
 | .e x y=>x==y&&x.sc c
 | .a n x y=>x==y&&x.sc c&&n.sc c
 | .b x y=>x==y&&x.sc c
 | .af x y=>x==y&&x.sc c
 | .v i j=>i==j&&ayo i c.v
 | .p i j=>i==j&&ayo i c.p
 | .bl i j=>i==j&&ayo i c.b
 | .rc i j=>i==j&&ayo i c.r
def writes:Code->List Nat
 | .region _ ops _=>ops.toList.filterMap (·.dst)
 | .seq a b=>writes a++writes b
 | .cond _ a b=>writes a++writes b
 | .block _ b=>writes b
 | .loop b=>writes b
 | .scope b=>writes b
 | .rangeFunc _ ps a b=>ps.toList++writes a++writes b
 | _=>[]
def eh(id:Nat):List KI->Option (List KI)
 | .uv i::k=>if i==id then some k else eh id k
 | .again _::k=>eh id k
 | .code _::k=>eh id k
 | .ops .. ::k=>eh id k
 | .loop .. ::k=>eh id k
 | .gh _::k=>eh id k
 | .jn i up nt c0 inc fr hp pre::k=>if i==some id then some (.jn i up nt c0 inc fr hp pre::k)else eh id k
 | .round l fn nt fr d::k=>some (.ot l (.exit id) fn nt fr d::k)
 | _=>none
def jq:List KI->Option (List KI)
 | .call fn nt fr d f::k=>some (.call fn nt fr d f::k)
 | .top f::k=>some (.top f::k)
 | .rf l r fn nt fr ps x y f::k=>some (.rf l r fn nt fr ps x y f::k)
 | .round l fn nt fr d::k=>some (.ot l .ret fn nt fr d::k)
 | .uv _::k=>jq k
 | .again _::k=>jq k
 | .code _::k=>jq k
 | .ops .. ::k=>jq k
 | .loop .. ::k=>jq k
 | .jn .. ::k=>jq k
 | .gh _::k=>jq k
 | _=>none
def Cm:List KI->Option Nat
 | []=>none
 | .call .. ::_=>none
 | .top _::_=>none
 | .rf .. ::_=>none
 | .begin l::_=>some l
 | .round l .. ::_=>some l
 | _::k=>Cm k
def nl:List KI->Nat
 | []=>0
 | .loop .. ::k=>nl k+1
 | .jn .. ::k=>nl k+1
 | _::k=>nl k
def FJ(T:List TI)(st:St):ResultVar->Option SV
 | .tmp t=>look st.fr t
 | .cell a t=>match aV T t,look st.fr a with
  | some ti,some x=>match zY st.hp ti.k.agg ti.size x with
   | some r=>if r.vcs.isEmpty then some r.val else none
   | none=>none
  | _,_=>none
def Cn(T:List TI)(st:St)(fn:Func):Option SV:=
 match kP (fn.results.toList.map (FJ T st))with
 | some [v]=>some v
 | some vs=>some (.oH vs)
 | none=>none
def Bq:Env:={}
def BE.sure(b:BE):Bool:=b.sc {}&&b.den Bq
def more(vcs known:List BE):List BE:=vcs.filter (λb=> !b.sure)++known
def gvc(g:Option BE)(b:BE):BE:=
 match g with
 | some c=>bOr (kp c) b
 | none=>b
def sY(g:Option BE):List BE->List BE->F->F
 | [],_,r=>r
 | b::bs,known,r=>if gvc g b== .lit true||known.contains (gvc g b)||(gvc g b).sure then sY g bs known r else .vc (gvc g b) (sY g bs known r)
def pH(ρ:Env):Option BE->Bool
 | some c=>c.den ρ
 | none=>true
def guardOf(all:Array Oper)(fr:List (Nat×SV))(o:Oper):Option (Option BE):=
 match o.guard with
 | none=>some none
 | some (j,want)=>
  match all[j]? with
  | some oj=>match oj.dst with
   | some d=>match look fr d with
    | some (.bool b)=>some (some (if want then b else kp b))
    | some (.opt c (.bool b))=>some (some (CR c (if want then b else kp b)))
    | some .undef=>some (some (.lit false))
    | some (.opt _ .undef)=>some (some (.lit false))
    | _=>none
   | none=>none
  | none=>none
def eg(st:St)(e:Bl):St:=
 match e with
 | .none=>st
 | .new ck=>{st with hp:=st.hp++[ck],aY:={st.aY with b:=st.aY.b+1}}
 | .set i ck=>{st with hp:=st.hp.set i ck}
 | .app i ck=>{st with hp:=st.hp.set i ck,aY:={st.aY with v:=st.aY.v+1}}
 | .own ck=>{st with hp:=st.hp++[ck],aY:={st.aY with v:=st.aY.v+1}}
 | .Gr ck=>{st with hp:=st.hp++[ck],aY:={st.aY with v:=st.aY.v+1}}
def mK{α:Type}(e:α)(hp:List α):List Nat->List α->List α
 | i::r,c::cs=>mK e (hp.set i c) r cs
 | i::r,[]=>mK e (hp.set i e) r []
 | [],cs=>hp++cs
def iq(hp:List Ck)(use:List Nat)(new:List Ck):List Ck:=mK .emp hp use new
def M6(T:List TI)(st:St)(t:Nat):Option St:=
 match aV T t,yq T 30 t with
 | some ti,some aB=>if aB.all (bU.sc st.aY)then some {st with hp:=st.hp++[.cF true st.aY.v t ti.size (.lit 0) aB],aY:={st.aY with v:=st.aY.v+1}}else none
 | _,_=>none
inductive Co where
 | nil
 | cut (vcs:List BE)
 | uv
 | same
def Cp(st:St)(x:SV)(md:Bool):Option (St×Co):=
 match iJ st.hp x with
 | some r=>
  match jU r.p.lo r.aB with
  | some aB=>
   if r.s=cm r.aB/\(md=true->r.md=true)/\r.p.len.sc st.aY=true/\aB.all (bU.sc st.aY)=true then
    some ({st with hp:=st.hp.set r.j (.cF md st.aY.v r.t r.s r.p.len aB),aY:={st.aY with v:=st.aY.v+1}},.cut (r.vcs++fD (.lit 0) r.p.len))
   else none
  | none=>none
 | none=>none
def ZK(_:St)(_:SV)(_:Nat):Option (St×Co):=none
def Ck.Ed(b:Nat):Ck->Bool
 | .NP b'=>b==b'
 | _=>false
def Ck.yw(b:Nat):Ck->Bool
 | .vT b'=>b==b'
 | _=>false
def swapAt(hp:List Ck)(i j:Nat):List Ck:=
 match hp[i]?,hp[j]? with
 | some d,some c=>(hp.set i c).set j d
 | _,_=>hp
def adu(st:St)(s:Nat):Option Nat:=
 match look st.fr s with
 | some (.ptr b _)=>(findAt st.hp b).map (·.1)
 | some (.vv v)=>(fC st.hp v).map (·.1)
 | some (.sl b _ _ _ _)=>(findAt st.hp b).map (·.1)
 | _=>none
def eZ(T:List TI)(st:St)(x:um):Option (St×Co):=
 match x with
 | .slot s t=>match look st.fr s with
  | some .bW=>(M6 T st t).map λei=>(ei.put (some s) (.vv st.aY.v),.nil)
  | _=>none
 | .cell i j t=>match st.hp[i]? with
  | some (.row b w cs)=>match cs[j]? with
   | some .bW=>(M6 T st t).map λei=>({ei with hp:=ei.hp.set i (.row b w (cs.set j (.vv st.aY.v)))},.nil)
   | _=>none
  | _=>none
 | .cut s md=>match look st.fr s with
  | some x=>(Cp st x md).map λy=>(y.1.put (some s) (.vv st.aY.v),y.2)
  | none=>none
 | .rh i j md=>match st.hp[i]? with
  | some (.row b w cs)=>match cs[j]? with
   | some x=>match Cp st x md with
    | some (ei,wr)=>match ei.hp[i]? with
     | some (.row b' w' _)=>if b'=b/\w'=w then some ({ei with hp:=ei.hp.set i (.row b w (cs.set j (.vv st.aY.v)))},wr)else none
     | _=>none
    | none=>none
   | none=>none
  | _=>none
 | .marks=>some ({st with nt:={st.nt with ds:= .many st.aY.b::st.nt.ds},hp:=st.hp++[.vT st.aY.b],aY:={st.aY with b:=st.aY.b+1}},.uv)
 | .mark=>match st.nt.ds with
  | .one b:: .many c::ds=>match st.hp.findIdx? (Ck.Ed b),st.hp.findIdx? (Ck.yw c)with
   | some i,some j=>some ({st with nt:={st.nt with ds:= .many st.aY.b::ds},hp:=(st.hp.set i .emp).set j (.vT st.aY.b),aY:={st.aY with b:=st.aY.b+1}},.uv)
   | _,_=>none
  | .many _::_=>some (st,.same)
  | _=>none
 | .own s t=>match look st.fr s with
  | some x=>(ZK st x t).map λy=>(y.1.put (some s) (.vv st.aY.v),y.2)
  | none=>none
 | .swap s i=>match adu st s with
  | some j=>some ({st with hp:=swapAt st.hp i j},.same)
  | none=>none
def vg(T:List TI):St->List um->Option (St×List Co)
 | st,[]=>some (st,[])
 | st,x::r=>match eZ T st x with
  | some (ei,y)=>match vg T ei r with
   | some (s2,k)=>some (s2,y::k)
   | none=>none
  | none=>none
def vcF:List BE->F->F
 | [],f=>f
 | b::r,f=> .vc b (vcF r f)
def iR:List Co->F->F
 | [],f=>f
 | .nil::r,f=> .Js (iR r f)
 | .uv::r,f=> .Eh (iR r f)
 | .same::r,f=>iR r f
 | .cut vcs::r,f=>vcF vcs (.xw (iR r f))
def Cq(look:Nat->Option SV)(o:Oper):Option (Nat×List SV):=
 match o.op with
 | .call {callee:= .value f,args,.. }=>
  match kO look f,kP (args.toList.map (kO look))with
  | some (.fn f jL),some az=>some (f,az++jL)
  | some (.fm f first),some az=>some (f,first++az)
  | _,_=>none
 | _=>none
def gg(n:Nat):List SV->List (Nat×SV)
 | []=>[]
 | v::r=>(n,v)::gg (n+1) r
def tE(known:List BE)(b:BE):BE:=
 match b with
 | .lit x=> .lit x
 | b=>if b.sc {}then .lit (b.den Bq)else if known.contains b then .lit true else if known.contains (kp b)then .lit false else b
def SV.K6(c:BE):SV->SV
 | .opt c' v=>
  if c'=c then v else
  match c' with
  | .and a b=>if a=c then .opt b v else .opt (.and a b) v
  | c'=> .opt c' v
 | .bool b=>if b=c then .bool (.lit true)else .bool b
 | v=>v
def SV.tP(c:BE):SV->SV
 | .opt c' v=>
  if c'=c then .undef else
  match c' with
  | .and a b=>if a=c then .undef else .opt (.and a b) v
  | c'=> .opt c' v
 | .bool b=>if b=c then .bool (.lit false)else .bool b
 | v=>v
def St.K6(c:BE)(st:St):St:={st with fr:=st.fr.map λx=>(x.1,x.2.K6 c),known:=c::st.known}
def St.tP(c:BE)(st:St):St:={st with fr:=st.fr.map λx=>(x.1,x.2.tP c),known:=kp c::st.known}
def under(c:BE)(lk:Nat->Option SV)(s:Nat):Option SV:=
 match lk s with
 | some (.opt c' v)=>
  if c'=c then some v else
  match c' with
  | .and a b=>if a=c then some (.opt b v)else some (.opt (.and a b) v)
  | c'=>some (.opt c' v)
 | x=>x
def K7(fr:List (Nat×SV))(known:List BE)(x:Operand):Option BE:=
 match kO (look fr) x with
 | some (.bool b)=>some (tE known b)
 | _=>none
def tl(all:Array Oper)(fr:List (Nat×SV))(known:List BE)(o:Oper):Option (Option BE):=
 match guardOf all fr o with
 | some (some b)=>match tE known b with
  | .lit true=>some none
  | b=>some (some b)
 | x=>x
def SV.fix(known:List BE):SV->SV
 | .opt c v=>match tE known c with
  | .lit true=>v
  | .lit false=> .undef
  | _=> .opt c v
 | .bool b=> .bool (tE known b)
 | v=>v
def SV.adv(c:BE)(known:List BE):SV->SV
 | .bool b=>if known.contains (kp (CR c b))then .bool (.lit false)else .bool b
 | .opt b v=>if known.contains (kp (CR c b))then .undef else .opt b v
 | v=>v
def DH(g:Option BE)(known:List BE)(fr:List (Nat×SV))(s:Nat):Option SV:=
 match g with
 | some c=>(under c (look fr) s).map λv=>(v.fix known).adv c known
 | none=>(look fr s).map (SV.fix known)
def Op.quiet:Op->Bool
 | .move _ | .assign _ | .pick .. | .build .. | .load .. | .nilCheck _ | .binOp .. | .unOp .. | .sliceToArrayPointer .. | .fieldAddr .. | .field .. | .indexAddr .. | .index .. | .extract .. | .makeFunc .. | .makeInterface .. | .slice .. | .lookup .. =>true
 | .convert a b _=> !(a==b)
 | .call {callee:= .builtin .len,.. }=>true
 | .call {callee:= .builtin .max,.. }=>true
 | .call {callee:= .builtin .min,.. }=>true
 | _=>false
def ow(all:Array Oper)(done:Nat)(i:Nat):Bool:=
 match all[i]? with
 | some o=>o.after.toList.all λe=> !ayu .any e||done.testBit e.on
 | none=>false
def UR(all:Array Oper):List Nat->List Nat->List Nat
 | [],acc=>acc
 | i::r,acc=>
  match all[i]? with
  | some o=>UR all r (acc++[o.after.toList.foldl (λs e=>if ayu .any e&&ayo e.on i then s|||(1 <<< e.on)|||acc.getD e.on 0 else s) 0])
  | none=>acc
def slotsOf(all:Array Oper)(o:Oper):List Nat:=
 o.op.operands.toList.filterMap (λ| .tmp t=>some t | _=>none)++
  (match o.guard with | some (j,_)=>(match all[j]? with | some oj=>oj.dst.toList | none=>[]) | none=>[])
def mM(all:Array Oper)(pm:List Nat):Bool:=
 (List.range all.size).all λi=>
  match all[i]? with
  | some oi=>
   match oi.dst with
   | some d=>
    (List.range all.size).all λj=>
     match all[j]? with
     | some oj=>i==j|| !((slotsOf all oj).contains d||oj.dst==some d)||(pm.getD j 0).testBit i||(pm.getD i 0).testBit j
     | none=>true
   | none=>true
  | none=>true
def Bj(all:Array Oper)(pm:List Nat):Bool:=
 (List.range all.size).all λp=>
  match all[p]? with
  | some o=>
   (o.after.toList.all λe=> !ayu .any e||ayo e.on p)&&
   ((List.range all.size).all λq=> !(pm.getD p 0).testBit q||o.after.toList.any λe=>ayu .any e&&(q==e.on||(pm.getD e.on 0).testBit q))
  | none=>true
def EI(all:Array Oper)(i:Nat):Bool:=
 match all[i]? with
 | some o=>Op.quiet o.op
 | none=>false
def restrict(fr:List (Nat×SV))(aQ:List Nat):List (Nat×SV):=fr.filter λx=>aQ.contains x.1
def kept(c:cI)(hp nR:List Ck)(rd:List Nat):Bool:=
 rd.all λj=>
  match hp[j]?,nR[j]? with
  | some a,some b=>(match Aa a b with | some l=>l.all (iz.trivial c) | none=>false)
  | none,_=>true
  | _,_=>false
def iE(st:St)(fn:Nat)(nt:NT)(fr:List (Nat×SV)):St:={st with fn:=fn,nt:=nt,fr:=fr}
def sC(st:St)(d:Option Nat):Bool:=
 match d with
 | some d=>ayo d st.nt.n
 | none=>true
def qY(C:Ctx)(g:Option BE)(st:St)(o:Oper):Option jf:=
 match ep C.T (DH g st.known st.fr) st.hp st.aY.b st.aY.v o with
 | some res=>if res.sc st.aY then some res else none
 | none=>none
def GJ(C:Ctx)(g:Option BE)(st:St)(o:Oper):Option jf:=
 match g with
 | some (.lit false)=>some {val:= .undef}
 | g=>qY C g st o
def gsc(c:cI):Option BE->Bool
 | some b=>b.sc c
 | none=>true
def NY:Option BE->SV->SV
 | some c,v=> .opt c v
 | none,v=>v
def EF:Option BE->List BE->List BE->List BE
 | some _,_,k=>k
 | none,vcs,k=>more vcs k
def leave:List Ck->List MK->Option (List Ck)
 | hp,[]=>some hp
 | hp,.one d::ds=>
  match hp.findIdx? (Ck.Ed d)with
  | some i=>leave (hp.set i .emp) ds
  | none=>none
 | hp,.many d::ds=>
  match hp.findIdx? (Ck.yw d)with
  | some i=>leave (hp.set i .emp) ds
  | none=>none
def o9(st:St):Option St:=(leave st.hp st.nt.ds).map λhp=>{st with hp:=hp}
def tF(l:Nat):List KI->Option (Nat×Nat×NT×List (Nat×SV)×Array Tmp×Code×Code)
 | []=>none
 | .rf l' r fn nt fr ps x y _::k=>if l'==l then some (r,fn,nt,fr,ps,x,y)else tF l k
 | _::k=>tF l k
def Ck.isRec(l:Nat):Ck->Bool
 | .mY l' _ _ _=>l==l'
 | _=>false
def recAt(hp:List Ck)(l:Nat):Option (Nat×Nat×RS×Jump):=
 match hp.findIdx? (Ck.isRec l)with
 | some i=>
  match hp[i]? with
  | some (.mY _ r s j)=>some (i,r,s,j)
  | _=>none
 | none=>none
def m6(st:St):List (Nat×SV)->Option St
 | []=>some st
 | (d,v)::r=>if sC st (some d)&&v.sc st.aY then m6 (st.put (some d) v) r else none
def US(look:Nat->Option SV)(o:Oper):Option (Nat×List SV):=
 match o.op with
 | .call {callee:= .value f,args,.. }=>
  match kO look f,kP (args.toList.map (kO look))with
  | some (.Nk l),some az=>some (l,az)
  | _,_=>none
 | _=>none
def run(C:Ctx):Nat->List KI->St->F
 | 0,_,_=> .fail "fuel"
 | _+1,[],_=> .fail "end"
 | n+1,.uv _::k,st=>run C n k st
 | n+1,.gh g::k,st=>
  match g st with
  | none=>run C n k st
  | some s=>
   match s.split with
   | some b=>if b.sc st.aY then .fork b (run C n (.gh g::k) {st with known:=b::st.known}) (run C n (.gh g::k) {st with known:=kp b::st.known})else .fail "scope"
   | none=>
   match s.pick with
   | some idx=>if idx.all (λi=>ayo i st.hp.length)&&decide idx.Nodup then run C n k {st with hp:=idx.map λi=>st.hp.getD i .emp}else .fail "pick"
   | none=>
   let oT:=st.aY.add s.inc
   match o5 s.aQ st.fr with
   | some eqs=>
    if nF oT s.aQ&&s.new.all (Ck.sc oT)&&s.use.all (λi=>ayo i st.hp.length)&&decide s.use.Nodup then
     .ghost (s.use.map λi=>st.hp.getD i .emp) s.inc eqs s.new (run C n k {st with fr:=s.aQ++st.fr.filter (λx=> !(s.aQ.any λy=>y.1==x.1)),hp:=iq st.hp s.use s.new,aY:=oT})
    else .fail "scope"
   | none=> .fail "ghost"
 | n+1,.again body::k,st=>run C n (.code body:: .again body::k) st
 | _+1,.loop up nt c0 inc fr hp bk::_,st=>
  match vg C.T st bk with
  | none=> .fail "nil back"
  | some (st,nn)=>
  iR nn <|
  match o5 fr st.fr,o6 hp st.hp,nO nt.ds st.nt.ds with
  | some a,some b,some d=>if st.nt.n != nt.n then .fail "frame" else .back up c0 inc ((a++b++d).filter λq=> !q.trivial c0)
  | _,_,none=> .fail "marks"
  | _,_,_=> .fail "back"
 | _+1,.jn _ up nt c0 inc fr hp pre::_,st=>
  match vg C.T st pre with
  | none=> .fail "nil join"
  | some (st,nn)=>
  iR nn <|
  match o5 fr st.fr,o6 hp st.hp,nO nt.ds st.nt.ds with
  | some a,some b,some d=>if st.nt.n != nt.n then .fail "frame" else .meet up c0 inc ((a++b++d).filter λq=> !q.trivial c0)
  | _,_,none=> .fail "join marks"
  | none,_,_=> .fail "join slots"
  | _,_,_=> .fail "join"
 | n+1,.call fn nt fr d f::k,st=>
  match o9 st with
  | some st=>
   match Cn C.T st f with
   | some v=>if sC (iE st fn nt fr) d&&v.sc st.aY then run C n k ((iE st fn nt fr).put d v)else .fail "destination"
   | none=> .fail "results"
  | none=> .fail "marks"
 | _+1,.top f::_,st=>
  match o9 st with
  | some st=>
   match Cn C.T st f with
   | some v=> .ret v st.hp
   | none=> .fail "results"
  | none=> .fail "marks"
 | n+1,.code c::k,st=>
  match c with
  | .skip=>run C n k st
  | .label _=>run C n k st
  | .seq a b=>run C n (.code a:: .code b::k) st
  | .cond x t e=>
   match K7 st.fr st.known x with
   | some (.lit true)=>run C n (.code t::k) st
   | some (.lit false)=>run C n (.code e::k) st
   | some b=>if b.sc st.aY then .fork b (run C n (.code t::k) {st with known:=b::st.known}) (run C n (.code e::k) {st with known:=kp b::st.known})else .fail "scope"
   | none=> .fail "cond"
  | .block id b=>
   match C.ZI st.fn id with
   | none=>run C n (.code b:: .uv id::k) st
   | some ja=>
    let ws:=writes b
    let aQ:=ja.aQ st.aY
    let Jl:=aQ++st.fr.filter λx=> !(ws.contains x.1)&& !(aQ.any λy=>y.1==x.1)
    let nR:=ja.hp st.aY st.hp
    let oT:=st.aY.add ja.inc
    let As:NT:={st.nt with ds:=ja.ds st.aY st.nt.ds}
    if nF oT aQ&&nR.all (Ck.sc oT)&&aQ.all (λx=>ayo x.1 st.nt.n)&&As.ds.all (MK.sc oT)then
     .join (nl k) ja.inc (run C n (.code b:: .jn (some id) (nl k) As st.aY ja.inc Jl nR ja.pre::k) st) (run C n k {st with fr:=Jl,hp:=nR,aY:=oT,known:=[],nt:=As})
    else .fail "scope"
  | .loop body=>
   match k with
   | .uv id::_=>
    match C.loops st.fn id with
    | none=>run C n (.code body:: .again body::k) st
    | some la=>
     match vg C.T st la.pre with
     | none=> .fail "nil" id
     | some (st,nn)=>
     iR nn <|
     let ws:=writes body
     let aQ:=la.aQ st.aY
     let Jl:=aQ++st.fr.filter λx=> !(ws.contains x.1)&& !(aQ.any λy=>y.1==x.1)
     let nR:=la.hp st.aY st.hp
     let oT:=st.aY.add la.inc
     let As:NT:={st.nt with ds:=la.ds st.aY st.nt.ds}
     match o5 aQ st.fr,o6 nR st.hp,nO As.ds st.nt.ds with
     | some a,some b,some d=>
      if nF oT aQ&&nR.all (Ck.sc oT)&&aQ.all (λx=>ayo x.1 st.nt.n)&&As.ds.all (MK.sc oT)then
       .loop (nl k) la.inc ((a++b++d).filter λq=> !q.trivial st.aY)
        (run C n (.code body:: .loop (nl k) As st.aY la.inc Jl nR la.back::k) {st with fr:=Jl,hp:=nR,aY:=oT,known:=[],nt:=As})
      else .fail "scope"
     | _,_,_=> .fail "loop entry" id
   | _=>run C n (.code body:: .again body::k) st
  | .exit id=>match eh id k with
   | some k'=>run C n k' st
   | none=> .fail "exit" id
  | .ret=>match jq k with
   | some k'=>run C n k' st
   | none=> .fail "ret"
  | .region id ops false=>
   match C.iN st.fn id with
   | none=>run C n (.ops ops ops.toList::k) st
   | some g=>run C n (.ops ops ops.toList:: .gh g::k) st
  | .region id ops true=>
   let pm:=UR ops (List.range ops.size) []
   if mM ops pm&&Bj ops pm then
    match C.ZI st.fn (id+100000)with
    | some ja=>
     let aQ:=ja.aQ st.aY
     let Jl:=aQ++st.fr.filter λx=> !((writes (.region id ops true)).contains x.1)&& !(aQ.any λy=>y.1==x.1)
     let nR:=ja.hp st.aY st.hp
     let oT:=st.aY.add ja.inc
     let As:NT:={st.nt with ds:=ja.ds st.aY st.nt.ds}
     if nF oT aQ&&nR.all (Ck.sc oT)&&aQ.all (λx=>ayo x.1 st.nt.n)&&As.ds.all (MK.sc oT)then
      .join (nl k) ja.inc (run C n (.uL ops pm (List.range ops.size) 0 []:: .gh ja.gh:: .jn none (nl k) As st.aY ja.inc Jl nR ja.pre::k) st) (run C n k {st with fr:=Jl,hp:=nR,aY:=oT,known:=[],nt:=As})
     else .fail "scope"
    | none=>
    match C.iN st.fn id with
    | none=>run C n (.uL ops pm (List.range ops.size) 0 []::k) st
    | some g=>run C n (.uL ops pm (List.range ops.size) 0 []:: .gh g::k) st
   else .fail "order"
  | .rangeFunc g ps x y=>
   match kO (look st.fr) g with
   | some (.fn f jL)=>
    match C.FT.find? λx=>x.1==f with
    | none=> .fail "call" f
    | some (_,fd)=>
     match fd.body with
     | none=> .fail "no body" f
     | some c=>
      if SV.rF st.aY jL then
       match Cm k with
       | none=>
        .qP true (run C n (.code c:: .rf (st.aY.b+1) st.aY.r st.fn ⟨st.nt.n,.one st.aY.b::st.nt.ds⟩ st.fr ps x y fd::k)
         (iE {st with hp:=st.hp++[.NP st.aY.b]++[.mY (st.aY.b+1) st.aY.r .ready .none],aY:={st.aY with b:=st.aY.b+2,r:=st.aY.r+1}} f ⟨fd.ntmps,[]⟩ (gg 0 (.Nk (st.aY.b+1)::jL))))
       | some l0=>
        match recAt st.hp l0 with
        | some _=>
         .qP false (run C n (.code c:: .rf st.aY.b st.aY.r st.fn st.nt st.fr ps x y fd::k)
          (iE {st with hp:=st.hp++[.mY st.aY.b st.aY.r .ready .none],aY:={st.aY with b:=st.aY.b+1,r:=st.aY.r+1}} f ⟨fd.ntmps,[]⟩ (gg 0 (.Nk st.aY.b::jL))))
        | none=> .fail "round"
      else .fail "scope"
   | _=> .fail "range over what"
  | _=> .fail "code"
 | n+1,.ops _ []::k,st=>run C n k st
 | n+1,.ops all (o::rest)::k,st=>
  if sC st o.dst then
  match tl all st.fr st.known o with
  | none=> .fail "guard" (st.fn*1000+o.dst.getD 0)
  | some (some (.lit false))=>run C n (.ops all rest::k) (st.put o.dst .undef)
  | some (some c)=>
   if c.sc st.aY then
    match qY C (some c) st o with
    | some res=>
     match res.jE with
     | .none=>sY (some c) res.vcs st.known (run C n (.ops all rest::k) (st.put o.dst (.opt c res.val)))
     | _=> .fork c (run C n (.ops all ({o with guard:=none}::rest)::k) (st.K6 c)) (run C n (.ops all rest::k) ((st.tP c).put o.dst .undef))
    | none=> .fork c (run C n (.ops all ({o with guard:=none}::rest)::k) (st.K6 c)) (run C n (.ops all rest::k) ((st.tP c).put o.dst .undef))
   else .fail "scope"
  | some none=>
   match qY C none st o with
   | some res=>
    let nx:=run C n (.ops all rest::k) (({eg st res.jE with known:=more res.vcs st.known}).put o.dst res.val)
    sY none res.vcs st.known (match res.jE with | .new _=> .Eh nx | .app .. => .xw nx | .own .. => .xw nx | .Gr .. => .xw nx | _=>nx)
   | none=>
    match Cq (look st.fr) o with
    | some (f,az)=>
     match C.FT.find? λx=>x.1==f with
     | none=> .fail "call" f
     | some (_,fd)=>
      match fd.body with
      | none=>
       match ZJ C st.fn (o.dst.getD 0) f with
       | some ca=>
        if(tD ca az st.hp st.aY).sc (st.aY.add ca.inc)&&(ca.new st.aY ((ca.use az st.hp).map λi=>st.hp.getD i .emp)).all (Ck.sc (st.aY.add ca.inc))&&(ca.use az st.hp).all (λi=>ayo i st.hp.length)&&decide (ca.use az st.hp).Nodup then
         .ext f az ((ca.use az st.hp).map λi=>st.hp.getD i .emp) ca.inc (tD ca az st.hp st.aY) (ca.new st.aY ((ca.use az st.hp).map λi=>st.hp.getD i .emp))
          (run C n (.ops all rest::k) ({st with hp:=iq st.hp (ca.use az st.hp) (ca.new st.aY ((ca.use az st.hp).map λi=>st.hp.getD i .emp)),aY:=st.aY.add ca.inc}.put o.dst (tD ca az st.hp st.aY)))
        else .fail "scope"
       | none=> .fail "no body" f
      | some c=>
       match FI C f az st.hp with
       | some r=>
        if r.val.sc st.aY&&r.new.all (Ck.sc st.aY)&&r.use.all (λi=>ayo i st.hp.length)&&decide r.use.Nodup then
         sY none r.vcs st.known (run C n (.ops all rest::k) ({st with hp:=iq st.hp r.use r.new}.put o.dst r.val))
        else .fail "scope"
       | none=>
       match ZJ C st.fn (o.dst.getD 0) f with
       | some ca=>
        let use:=ca.use az st.hp
        let new:=ca.new st.aY (use.map λi=>st.hp.getD i .emp)
        let v:=tD ca az st.hp st.aY
        let oT:=st.aY.add ca.inc
        if v.sc oT&&new.all (Ck.sc oT)&&use.all (λi=>ayo i st.hp.length)&&decide use.Nodup then
         .call f az (use.map λi=>st.hp.getD i .emp) ca.inc v new (run C n (.ops all rest::k) ({st with hp:=iq st.hp use new,aY:=oT}.put o.dst v))
        else .fail "scope"
       | none=>
        if SV.rF st.aY az then run C n (.code c:: .call st.fn st.nt st.fr o.dst fd:: .ops all rest::k) (iE st f ⟨fd.ntmps,[]⟩ (gg 0 az))else .fail "scope"
    | none=>
    match US (look st.fr) o with
    | some (l,az)=>
     match tF l k,recAt st.hp l with
     | some (r,fn,nt,fr,ps,x,y),some (_,r',_,_)=>
      if r=r'&&az.length==ps.size then
       match m6 (iE st fn ⟨nt.n,[]⟩ fr) (ps.toList.zip az)with
       | some nP=>run C n (.code x:: .begin l:: .code y:: .round l st.fn st.nt st.fr o.dst:: .ops all rest::k) nP
       | none=> .fail "slot"
      else .fail "yield"
     | _,_=> .fail "yield"
    | none=> .fail "op" (st.fn*1000+o.dst.getD 0)
  else .fail "slot"
 | n+1,.rf l _ fn nt fr _ _ _ fd::k,st=>
  match o9 st with
  | some st=>
   match Cn C.T st fd,recAt st.hp l with
   | some _,some (i,r,s,j)=>
    if s= .busy then .fail "busy" else
    match j with
    | .none=>run C n k (iE {st with hp:=st.hp.set i (.mY l r .exhausted j)} fn nt fr)
    | .ret=>run C n (.code .ret::k) (iE {st with hp:=st.hp.set i (.mY l r .exhausted j)} fn nt fr)
    | .exit id=>run C n (.code (.exit id)::k) (iE {st with hp:=st.hp.set i (.mY l r .exhausted j)} fn nt fr)
   | _,_=> .fail "results"
  | none=> .fail "marks"
 | n+1,.begin l::k,st=>
  match recAt st.hp l with
  | some (i,r,.ready,j)=>run C n k {st with hp:=st.hp.set i (.mY l r .busy j)}
  | _=> .fail "not ready"
 | n+1,.round l fn nt fr d::k,st=>run C n (.ot l .none fn nt fr d::k) st
 | n+1,.ot l j fn nt fr d::k,st=>
  match recAt st.hp l with
  | some (i,r,_,_)=>
   if sC (iE st fn nt fr) d then
    run C n k ((iE {st with hp:=st.hp.set i (.mY l r (if j= .none then .ready else .done) j)} fn nt fr).put d (.bool (.lit (decide (j= .none)))))
   else .fail "slot"
  | none=> .fail "record"
 | n+1,.uL all pm rest done log::k,st=>
  match rest with
  | []=>run C n k st
  | _=>
   match rest.find? λi=>EI all i&&ow all done i with
   | some i=>
    match all[i]? with
    | some o=>
     if sC st o.dst then
      match tl all (restrict st.fr (slotsOf all o)) st.known o with
      | none=> .fail "guard" i
      | some g=>
       if gsc st.aY g then
        match GJ C g {st with fr:=restrict st.fr (slotsOf all o)} o with
        | some res=>
         match res.jE with
         | .none=>
          sY g res.vcs st.known (run C n (.uL all pm (rest.filter λj=>j != i) (done|||(1 <<< i)) ((i,res.rd)::log)::k)
           (({st with known:=EF g res.vcs st.known}).put o.dst (NY g res.val)))
         | _=> .fail "effect" i
        | none=> .fail "quiet" i
       else .fail "scope"
     else .fail "slot"
    | none=> .fail "no op"
   | none=>
    Q1 ((rest.filter (ow all done)).map λe=>
     match all[e]? with
     | some o=>
      if sC st o.dst then run C n (.ops all [o]:: .QZ all pm e rest done log st.fn st.nt st.fr st.hp st.aY::k) {st with fr:=restrict st.fr (slotsOf all o)}else .fail "slot"
     | none=> .fail "no op")
 | n+1,.QZ all pm e rest done log fn nt fr hp aY::k,st=>
  match all[e]? with
  | some o=>
   if(log.all λx=>(pm.getD e 0).testBit x.1||kept aY hp st.hp x.2)&&st.nt==nt then
    match (match o.dst with | some d=>look st.fr d | none=>some .undef)with
    | some v=>run C n (.uL all pm (rest.filter λj=>j != e) (done|||(1 <<< e)) log::k) ((iE st fn nt fr).put o.dst v)
    | none=> .fail "result"
   else .fail "read beside"
  | none=> .fail "no op"
def oR(C:Ctx)(f:Nat)(args:List SV)(hp:List Ck)(aY:cI)(fd:Func):F:=
 match fd.body with
 | some c=>if SV.rF aY args&&hp.all (Ck.sc aY)then run C 100000 [.code c,.top fd] {fn:=f,fr:=gg 0 args,hp:=hp,aY:=aY,nt:=⟨fd.ntmps,[]⟩}else .fail "scope"
 | none=> .fail "no body"
end Go.RX
