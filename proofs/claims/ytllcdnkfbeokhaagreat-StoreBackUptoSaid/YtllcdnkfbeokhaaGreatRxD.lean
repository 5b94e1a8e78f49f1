/- Executor. -/
import Derived.Test.YtllcdnkfbeokhaaGreatRxC
open Go.Region renaming binds → au_
open Nat renaming blt → auS
namespace Go.RX
def cG.add(a b:cG):cG:=⟨a.b+b.b,a.v+b.v,a.i+b.i,a.a+b.a,a.bo+b.bo,a.p+b.p,a.r+b.r⟩
inductive g_ where
 | e (a b:E)
 | a (n:E) (a b:E)
 | af (a b:E)
 | b (a b:BE)
 | v (i j:Nat)
 | p (i j:Nat)
 | bl (i j:Nat)
 | rc (i j:Nat)
 deriving Repr
inductive F where
 | fail (s:String) (slot:Nat:=0)
 | vc (b:BE) (r:F)
 | fork (c:BE) (t e:F)
 | ret (v:SV) (hp:List Ck)
 | DB (r:F)
 | wN (r:F)
 | Iy (r:F)
 | pX (outer:Bool) (r:F)
 | call (f:Nat) (args:List SV) (use:List Ck) (inc:cG) (val:SV) (new:List Ck) (r:F)
 | ext (f:Nat) (args:List SV) (use:List Ck) (inc:cG) (val:SV) (new:List Ck) (r:F)
 | loop (up:Nat) (inc:cG) (eqs:List g_) (body:F)
 | back (up:Nat) (c0:cG) (inc:cG) (eqs:List g_)
 | join (up:Nat) (inc:cG) (body r:F)
 | meet (up:Nat) (c0:cG) (inc:cG) (eqs:List g_)
 | ghost (use:List Ck) (inc:cG) (eqs:List g_) (new:List Ck) (r:F)
 | both (a b:F)
 deriving Inhabited
def Qf:List F→F
 | []=> .fail "none"
 | [x]=>x
 | x::y::r=> .both x (Qf (y::r))
def E.sc(c:cG):E→Bool
 | .lit _=>true
 | .var i=>auS i c.i
 | .cU i=>auS i c.a
 | .TN a i=>a.sc c&&i.sc c
 | .bin _ _ a b=>a.sc c&&b.sc c
 | .wrap _ a=>a.sc c
 | .nm a i v=>a.sc c&&i.sc c&&v.sc c
 | .shift a o=>a.sc c&&o.sc c
 | .jI a o n b=>a.sc c&&o.sc c&&n.sc c&&b.sc c
 | .kc _ a=>a.sc c
 | .tS b=>auS b c.b
 | .qV _=>true
 | .Un a i=>a.sc c&&i.sc c
 | .ry a i s=>a.sc c&&i.sc c&&s.sc c
 | .Xu s=>s.sc c
def BE.sc(c:cG):BE→Bool
 | .lit _=>true
 | .var i=>auS i c.bo
 | .eq a b=>a.sc c&&b.sc c
 | .lt a b=>a.sc c&&b.sc c
 | .le a b=>a.sc c&&b.sc c
 | .nz a=>a.sc c
 | .Xv _ a b=>a.sc c&&b.sc c
 | .not a=>a.sc c
 | .and a b=>a.sc c&&b.sc c
 | .or a b=>a.sc c&&b.sc c
 | .ite x t e=>x.sc c&&t.sc c&&e.sc c
 | .seq a b=>a.sc c&&b.sc c
 | .DA i=>auS i c.v
def Cut.sc(c:cG)(k:Cut):Bool:=k.lo.sc c&&k.hi.sc c&&(match k.mx with | some m=>m.sc c | none=>true)
mutual
def SV.sc(c:cG):SV→Bool
 | .int _ e=>e.sc c
 | .bool b=>b.sc c
 | .ptr b _=>auS b c.b
 | .qX b i _ _=>auS b c.b&&i.sc c
 | .pv v i _ _=>auS v c.v&&i.sc c
 | .sl b i _ n m=>auS b c.b&&i.sc c&&n.sc c&&m.sc c
 | .vv i=>auS i c.v
 | .fn _ jq=>SV.qM c jq
 | .fm _ jq=>SV.qM c jq
 | .agg cs=>SV.qM c cs
 | .dg _ _ a=>a.sc c
 | .oL vs=>SV.qM c vs
 | .opt b v=>b.sc c&&v.sc c
 | .FJ _ i=>i.sc c
 | .Mk l=>auS l c.b
 | .mp b=>auS b c.b
 | .jJ v cs _=>auS v c.v&&cs.all (Cut.sc c)
 | .jE e=>e.sc c
 | .Ku e=>e.sc c
 | .mu e=>e.sc c
 | .Ix b v=>b.sc c&&auS v c.v
 | .PF _ _ e=>e.sc c
 | .Uo _ b _=>auS b c.b
 | .PG v i _ _ _=>auS v c.v&&i.sc c
 | _=>true
def SV.qM(c:cG):List SV→Bool
 | []=>true
 | v::r=>v.sc c&&SV.qM c r
end
def CK.sc(c:cG):CK→Bool
 | .Ic l=>l.all fun n=>auS n c.v
 | .pt i v=>i.sc c&&auS v c.v
 | _=>true
def bP.sc(c:cG)(k:bP):Bool:=k.a.sc c&&k.ck.sc c
def Ck.sc(c:cG):Ck→Bool
 | .emp=>true
 | .row b _ cs=>auS b c.b&&SV.qM c cs
 | .cC _ v _ _ n aA=>auS v c.v&&n.sc c&&aA.all (bP.sc c)
 | .abs i=>auS i c.p
 | .my l r _ _=>auS l c.b&&auS r c.r
 | .MO b=>auS b c.b
 | .vB b=>auS b c.b
 | .map b _ _ _ zero has aA=>auS b c.b&&SV.qM c zero&&has.sc c&&aA.all (bP.sc c)
 | .vn b _ _ _ zero es=>auS b c.b&&SV.qM c zero&&es.all fun e=>SV.qM c e.2
 | .KA b _ _ n a=>auS b c.b&&n.sc c&&a.sc c
 | .O0 b _ _=>auS b c.b
 | .P4 b m=>auS b c.b&&auS m c.b
def mP(c:cG)(fr:List (Nat×SV)):Bool:=fr.all fun x=>x.2.sc c
def Ar.sc(c:cG):Ar→Bool
 | .none=>true
 | .new (.row _ _ cs)=>SV.qM c cs
 | .new (.map _ _ _ _ zero has aA)=>SV.qM c zero&&has.sc c&&aA.all (bP.sc c)
 | .new (.vn _ _ _ _ zero es)=>SV.qM c zero&&es.all fun e=>SV.qM c e.2
 | .new (.KA _ _ _ n a)=>n.sc c&&a.sc c
 | .new (.O0 _ _ _)=>true
 | .new (.P4 _ m)=>auS m c.b
 | .set _ ck=>ck.sc c
 | .app _ (.cC _ _ _ _ n aA)=>n.sc c&&aA.all (bP.sc c)
 | .own (.cC _ _ _ _ n aA)=>n.sc c&&aA.all (bP.sc c)
 | .FZ (.cC _ _ _ _ n aA)=>n.sc c&&aA.all (bP.sc c)
 | _=>false
def Ar.grow(c:cG):Ar→cG
 | .new _=>{c with b:=c.b+1}
 | .app .. =>{c with v:=c.v+1}
 | .own .. =>{c with v:=c.v+1}
 | .FZ .. =>{c with v:=c.v+1}
 | _=>c
def iC.sc(c:cG)(r:iC):Bool:=r.val.sc (r.iD.grow c)&&r.vcs.all (BE.sc c)&&r.iD.sc c
inductive MK where
 | one (b:Nat)
 | many (b:Nat)
 deriving DecidableEq,Repr
def MK.sc(c:cG):MK→Bool
 | .one b=>auS b c.b
 | .many b=>auS b c.b
def mZ:List MK→List MK→Option (List g_)
 | [],[]=>some []
 | .one b::r,.one b'::r'=>(mZ r r').map (.bl b b':: ·)
 | .many b::r,.many b'::r'=>(mZ r r').map (.bl b b':: ·)
 | _,_=>none
structure NT where
 n:Nat:=0
 ds:List MK:=[]
 deriving DecidableEq,Repr,Inhabited
structure St where
 fn:Nat:=0
 fr:List (Nat×SV):=[]
 hp:List Ck:=[]
 a_:cG:={}
 known:List BE:=[]
 nt:NT:={}
 deriving Inhabited
def look(fr:List (Nat×SV))(s:Nat):Option SV:=
 match fr with
 | []=>none
 | (t,v)::r=>if t==s then some v else look r s
def St.put(st:St)(d:Option Nat)(v:SV):St:=
 match d with
 | some d=>{st with fr:=(d,v)::st.fr.filter fun x=> !(x.1==d)}
 | none=>st
structure aK where
 use:List SV→List Ck→List Nat
 inc:cG:={}
 val:cG→SV
 new:cG→List Ck→List Ck
 valOf:Option (List SV→List Ck→SV):=none
def sX(ca:aK)(az:List SV)(hp:List Ck)(c:cG):SV:=
 match ca.valOf with
 | some g=>g az hp
 | none=>ca.val c
inductive tL where
 | slot (s t:Nat)
 | cell (i j t:Nat)
 | cut (s:Nat) (md:Bool)
 | qv (i j:Nat) (md:Bool)
 | marks
 | mark
 | swap (s i:Nat)
 | own (s t:Nat)
structure ey where
 pre:List tL:=[]
 inc:cG:={}
 aX:cG→List (Nat×SV)
 hp:cG→List Ck→List Ck:=fun _ h=>h
 back:List tL:=[]
 ds:cG→List MK→List MK:=fun _ d=>d
structure cJ where
 split:Option BE:=none
 pick:Option (List Nat):=none
 use:List Nat:=[]
 inc:cG:={}
 aX:List (Nat×SV):=[]
 new:List Ck:=[]
structure Xg where
 pre:List tL:=[]
 inc:cG:={}
 aX:cG→List (Nat×SV)
 hp:cG→List Ck→List Ck:=fun _ h=>h
 ds:cG→List MK→List MK:=fun _ d=>d
 gh:St→Option cJ:=fun _=>none
inductive KI where
 | gh (g:St→Option cJ)
 | code (c:Code)
 | ops (all:Array Oper) (rest:List Oper)
 | um (all:Array Oper) (pm:List Nat) (rest:List Nat) (done:Nat) (log:List (Nat×List Nat))
 | Qd (all:Array Oper) (pm:List Nat) (e:Nat) (rest:List Nat) (done:Nat) (log:List (Nat×List Nat)) (fn:Nat) (nt:NT) (fr:List (Nat×SV)) (hp:List Ck) (a_:cG)
 | tS (id:Nat)
 | again (body:Code)
 | loop (up:Nat) (nt:NT) (c0:cG) (inc:cG) (fr:List (Nat×SV)) (hp:List Ck) (bk:List tL)
 | jn (id:Option Nat) (up:Nat) (nt:NT) (c0:cG) (inc:cG) (fr:List (Nat×SV)) (hp:List Ck) (pre:List tL)
 | call (fn:Nat) (nt:NT) (fr:List (Nat×SV)) (dst:Option Nat) (callee:Func)
 | rf (l r:Nat) (fn:Nat) (nt:NT) (fr:List (Nat×SV)) (ps:Array Tmp) (assign body:Code) (callee:Func)
 | begin (l:Nat)
 | round (l:Nat) (fn:Nat) (nt:NT) (fr:List (Nat×SV)) (dst:Option Nat)
 | nE (l:Nat) (j:Jump) (fn:Nat) (nt:NT) (fr:List (Nat×SV)) (dst:Option Nat)
 | top (callee:Func)
 deriving Inhabited
structure afw where
 val:SV
 vcs:List BE:=[]
 use:List Nat:=[]
 new:List Ck:=[]
structure Ctx where
 T:List TI
 FT:List (Nat×Func)
 calls:Nat→Nat→Option aK:=fun _ _=>none
 loops:Nat→Nat→Option ey:=fun _ _=>none
 Yh:Nat→Nat→Option Xg:=fun _ _=>none
 mE:Nat→Nat→Option (St→Option cJ):=fun _ _=>none
 br:Nat→Option aK:=fun _=>none
 pure:Nat→Option (List SV→List Ck→Option afw):=fun _=>none
def E1(C:Ctx)(f:Nat)(az:List SV)(hp:List Ck):Option afw:=
 match C.pure f with
 | some g=>g az hp
 | none=>none
def Yi(C:Ctx)(fn d f:Nat):Option aK:=
 match C.calls fn d with
 | some ca=>some ca
 | none=>C.br f
def m9:List Cut→List Cut→Option (List g_)
 | [],[]=>some []
 | a::r,b::r'=>
  match a.mx,b.mx,m9 r r' with
  | none,none,some x=>some (.e a.lo b.lo:: .e a.hi b.hi::x)
  | some m,some m',some x=>some (.e a.lo b.lo:: .e a.hi b.hi:: .e m m'::x)
  | _,_,_=>none
 | _,_=>none
mutual
def vD:SV→SV→Option (List g_)
 | .int k a,.int k' b=>if k=k' then some [.e a b]else none
 | .bool a,.bool b=>some [.b a b]
 | .cu,.cu=>some []
 | .bx,.bx=>some []
 | .kD,.kD=>some []
 | .pf,.pf=>some []
 | .nT,.nT=>some []
 | .undef,.undef=>some []
 | .ptr b c,.ptr b' c'=>if c=c' then some [.bl b b']else none
 | .qX b i s c,.qX b' i' s' c'=>if c=c'∧s=s' then some [.bl b b',.e i i']else none
 | .pv b i s c,.pv b' i' s' c'=>if c=c'∧s=s' then some [.v b b',.e i i']else none
 | .sl b i s n m,.sl b' i' s' n' m'=>if s=s' then some [.bl b b',.e i i',.e n n',.e m m']else none
 | .vv i,.vv j=>some [.v i j]
 | .str l,.str l'=>if l=l' then some []else none
 | .mu s,.mu s'=>some [.af s s']
 | .Ix c v,.Ix c' v'=>some [.b c c',.v v v']
 | .PF t k e,.PF t' k' e'=>if t=t'∧k=k' then some [.e e e']else none
 | .mu s,.str l=>some [.af s (B9 l)]
 | .fn f cs,.fn f' ra=>if f=f' then gV cs ra else none
 | .fm f cs,.fm f' ra=>if f=f' then gV cs ra else none
 | .agg cs,.agg ra=>gV cs ra
 | .dg k n a,.dg k' n' b=>if k=k'∧n=n' then some [.a (.lit n) a b]else none
 | .oL cs,.oL ra=>gV cs ra
 | .opt c v,.opt c' v'=>(vD v v').map (.b c c':: ·)
 | .Mk l,.Mk l'=>some [.bl l l']
 | .mp l,.mp l'=>some [.bl l l']
 | .jE e,.jE e'=>some [.e e e']
 | .jE e,.ptr b o=>if o=0 then some [.e e (.tS b)]else none
 | .jE e,.cu=>some [.e e (.lit 0)]
 | .ptr b o,.jE e=>if o=0 then some [.e (.tS b) e]else none
 | .Ku e,.Ku e'=>some [.e e e']
 | .Ku e,.bx=>some [.e e (.lit 0)]
 | .jJ v cs s,.jJ v' ra s'=>if s=s' then(m9 cs ra).map (.v v v':: ·)else none
 | _,_=>none
def gV:List SV→List SV→Option (List g_)
 | [],[]=>some []
 | a::r,b::r'=>match vD a b,gV r r' with
  | some x,some y=>some (x++y)
  | _,_=>none
 | _,_=>none
end
def kq(n:E):List bP→List bP→Option (List g_)
 | [],[]=>some []
 | a::r,b::r'=>
  match a.ck,b.ck with
  | .Ic l,.Ic l'=>if l.length=l'.length∧a.w=b.w then(kq n r r').map ((l.zip l').map (fun x=>g_.v x.1 x.2)++ ·)else none
  | .pt _ _,_=>none
  | _,_=>if a.ck=b.ck∧a.w=b.w then(kq n r r').map ((if a.ck= .str then .af a.a b.a else .a (rB n (.lit a.w)) a.a b.a):: ·)
   else if a.ck= .cv∧b.ck= .bx∧a.w=b.w then(kq n r r').map (.a (rB n (.lit a.w)) a.a (.lit 0):: ·)else none
 | _,_=>none
def j_:List bP→List bP→Option (List g_)
 | [],[]=>some []
 | a::r,b::r'=>
  match a.ck,b.ck with
  | .Ic _,_=>none
  | .pt i v,.pt j u=>if a.w=b.w then(j_ r r').map (fun l=> .e i j:: .v v u:: .af a.a b.a::l)else none
  | .pt _ _,_=>none
  | _,_=>if a.ck=b.ck∧a.w=b.w then(j_ r r').map (.af a.a b.a:: ·)else none
 | _,_=>none
def uk:Nat→List SV→List SV→List SV
 | 0,_,act=>act
 | f+1,.int _ _::p,.dg k (m+1) a::r=> .int k (eJ a (.lit 0))::uk f p (if m=0 then r else .dg k m (lA a (.lit 1))::r)
 | f+1,.dg k n _::p,x::r=>
  if SV.width x=n then x::uk f p r else
  match j6 0 n (x::r),gN n (x::r)with
  | some c,some d=>
   match rowOf c with
   | some (kl,e)=>if kl=List.replicate n k then .dg k n e::uk f p d else x::r
   | none=>x::r
  | _,_=>x::r
 | f+1,_::p,x::r=>x::uk f p r
 | _+1,_,act=>act
def sM:List (Nat×List SV)→List (Nat×List SV)→Option (List g_)
 | [],[]=>some []
 | (i,v)::r,(j,u)::r'=>if i=j then(match gV v u,sM r r' with
  | some x,some y=>some (x++y)
  | _,_=>none)else none
 | _,_=>none
def zo:Ck→Ck→Option (List g_)
 | .emp,.emp=>some []
 | .row b w cs,.row b' w' ra=>if w=w' then(gV cs (uk 200 cs ra)).map (.bl b b':: ·)else none
 | .cC md v t s n aA,.cC md' v' t' s' n' aS=>if md=md'∧t=t'∧s=s' then(kq n aA aS).map fun r=> .v v v':: .e n n'::r else none
 | .abs i,.abs j=>some [.p i j]
 | .my l r s j,.my l' r' s' j'=>if s=s'∧j=j' then some [.bl l l',.rc r r']else none
 | .MO b,.MO b'=>some [.bl b b']
 | .vB b,.vB b'=>some [.bl b b']
 | .map b kl ka va z has aA,.map b' Ka ka' va' z' BD aS=>
  if kl=Ka∧ka=ka'∧va=va' then
   match gV z z',j_ aA aS with
   | some x,some y=>some (.bl b b':: .af has BD::(x++y))
   | _,_=>none
  else none
 | .vn b kl ka va z es,.vn b' Ka ka' va' z' Cj=>
  if kl=Ka∧ka=ka'∧va=va' then
   match gV z z',sM es Cj with
   | some x,some y=>some (.bl b b'::(x++y))
   | _,_=>none
  else none
 | .KA b t e n a,.KA b' t' e' n' a'=>if t=t'∧e=e' then some [.bl b b',.e n n',.a n a a']else none
 | .O0 b l p,.O0 b' l' p'=>if l=l'∧p=p' then some [.bl b b']else none
 | .P4 b m,.P4 b' m'=>some [.bl b b',.bl m m']
 | _,_=>none
def oq:List Ck→List Ck→Option (List g_)
 | [],_=>some []
 | a::r,b::r'=>match zo a b,oq r r' with
  | some x,some y=>some (x++y)
  | _,_=>none
 | _::_,[]=>none
def om(pat act:List (Nat×SV)):Option (List g_):=
 match pat with
 | []=>some []
 | (s,v)::r=>match look act s,om r act with
  | some v',some y=>(vD v v').map (· ++y)
  | _,_=>none
def g_.trivial(c:cG):g_→Bool
 | .e x y=>x==y&&x.sc c
 | .a n x y=>x==y&&x.sc c&&n.sc c
 | .b x y=>x==y&&x.sc c
 | .af x y=>x==y&&x.sc c
 | .v i j=>i==j&&auS i c.v
 | .p i j=>i==j&&auS i c.p
 | .bl i j=>i==j&&auS i c.b
 | .rc i j=>i==j&&auS i c.r
def writes:Code→List Nat
 | .region _ ops _=>ops.toList.filterMap (·.dst)
 | .seq a b=>writes a++writes b
 | .cond _ a b=>writes a++writes b
 | .block _ b=>writes b
 | .loop b=>writes b
 | .scope b=>writes b
 | .rangeFunc _ ps a b=>ps.toList++writes a++writes b
 | _=>[]
def dZ(id:Nat):List KI→Option (List KI)
 | .tS i::k=>if i==id then some k else dZ id k
 | .again _::k=>dZ id k
 | .code _::k=>dZ id k
 | .ops .. ::k=>dZ id k
 | .loop .. ::k=>dZ id k
 | .gh _::k=>dZ id k
 | .jn i up nt c0 inc fr hp pre::k=>if i==some id then some (.jn i up nt c0 inc fr hp pre::k)else dZ id k
 | .round l fn nt fr d::k=>some (.nE l (.exit id) fn nt fr d::k)
 | _=>none
def iT:List KI→Option (List KI)
 | .call fn nt fr d f::k=>some (.call fn nt fr d f::k)
 | .top f::k=>some (.top f::k)
 | .rf l r fn nt fr ps x y f::k=>some (.rf l r fn nt fr ps x y f::k)
 | .round l fn nt fr d::k=>some (.nE l .ret fn nt fr d::k)
 | .tS _::k=>iT k
 | .again _::k=>iT k
 | .code _::k=>iT k
 | .ops .. ::k=>iT k
 | .loop .. ::k=>iT k
 | .jn .. ::k=>iT k
 | .gh _::k=>iT k
 | _=>none
def BF:List KI→Option Nat
 | []=>none
 | .call .. ::_=>none
 | .top _::_=>none
 | .rf .. ::_=>none
 | .begin l::_=>some l
 | .round l .. ::_=>some l
 | _::k=>BF k
def nl:List KI→Nat
 | []=>0
 | .loop .. ::k=>nl k+1
 | .jn .. ::k=>nl k+1
 | _::k=>nl k
def E2(T:List TI)(st:St):ResultVar→Option SV
 | .tmp t=>look st.fr t
 | .cell a t=>match aU T t,look st.fr a with
  | some ti,some x=>match zj st.hp ti.k.agg ti.size x with
   | some r=>if r.vcs.isEmpty then some r.val else none
   | none=>none
  | _,_=>none
def BG(T:List TI)(st:St)(fn:Func):Option SV:=
 match j9 (fn.results.toList.map (E2 T st))with
 | some [v]=>some v
 | some vs=>some (.oL vs)
 | none=>none
def Ay:Env:={}
def BE.sure(b:BE):Bool:=b.sc {}&&b.den Ay
def more(vcs known:List BE):List BE:=vcs.filter (fun b=> !b.sure)++known
def gvc(g:Option BE)(b:BE):BE:=
 match g with
 | some c=>bOr (j5 c) b
 | none=>b
def sx(g:Option BE):List BE→List BE→F→F
 | [],_,r=>r
 | b::bs,known,r=>if gvc g b== .lit true||known.contains (gvc g b)||(gvc g b).sure then sx g bs known r else .vc (gvc g b) (sx g bs known r)
def oU(ρ:Env):Option BE→Bool
 | some c=>c.den ρ
 | none=>true
def guardOf(all:Array Oper)(fr:List (Nat×SV))(o:Oper):Option (Option BE):=
 match o.guard with
 | none=>some none
 | some (j,want)=>
  match all[j]? with
  | some oj=>match oj.dst with
   | some d=>match look fr d with
    | some (.bool b)=>some (some (if want then b else j5 b))
    | some (.opt c (.bool b))=>some (some (B_ c (if want then b else j5 b)))
    | some .undef=>some (some (.lit false))
    | some (.opt _ .undef)=>some (some (.lit false))
    | _=>none
   | none=>none
  | none=>none
def dY(st:St)(e:Ar):St:=
 match e with
 | .none=>st
 | .new ck=>{st with hp:=st.hp++[ck],a_:={st.a_ with b:=st.a_.b+1}}
 | .set i ck=>{st with hp:=st.hp.set i ck}
 | .app i ck=>{st with hp:=st.hp.set i ck,a_:={st.a_ with v:=st.a_.v+1}}
 | .own ck=>{st with hp:=st.hp++[ck],a_:={st.a_ with v:=st.a_.v+1}}
 | .FZ ck=>{st with hp:=st.hp++[ck],a_:={st.a_ with v:=st.a_.v+1}}
def mb{α:Type}(e:α)(hp:List α):List Nat→List α→List α
 | i::r,c::cs=>mb e (hp.set i c) r cs
 | i::r,[]=>mb e (hp.set i e) r []
 | [],cs=>hp++cs
def g9(hp:List Ck)(use:List Nat)(new:List Ck):List Ck:=mb .emp hp use new
def LU(T:List TI)(st:St)(t:Nat):Option St:=
 match aU T t,xC T 30 t with
 | some ti,some aA=>if aA.all (bP.sc st.a_)then some {st with hp:=st.hp++[.cC true st.a_.v t ti.size (.lit 0) aA],a_:={st.a_ with v:=st.a_.v+1}}else none
 | _,_=>none
inductive BH where
 | nil
 | cut (vcs:List BE)
 | tS
 | same
def BI(st:St)(x:SV)(md:Bool):Option (St×BH):=
 match ic st.hp x with
 | some r=>
  match jz r.p.lo r.aA with
  | some aA=>
   if r.s=b_ r.aA∧(md=true→r.md=true)∧r.p.len.sc st.a_=true∧aA.all (bP.sc st.a_)=true then
    some ({st with hp:=st.hp.set r.j (.cC md st.a_.v r.t r.s r.p.len aA),a_:={st.a_ with v:=st.a_.v+1}},.cut (r.vcs++eG (.lit 0) r.p.len))
   else none
  | none=>none
 | none=>none
def Tl(st:St)(x:SV)(t:Nat):Option (St×BH):=
 match x with
 | .sl b i s n m=>
  match findAt st.hp b,eU i,eU n with
  | some (j,.row _ true cs),some 0,some q=>
   match rowOf cs with
   | some (ki::kl,a)=>
    if n=m∧s=1∧kl.length+1=q∧ki::kl=List.replicate q ki∧q≤140737488355328∧a.sc st.a_=true then
     some ({st with hp:=st.hp.set j (.cC true st.a_.v t 1 (.lit (q:Int)) [⟨.int ki,1,a⟩]),a_:={st.a_ with v:=st.a_.v+1}},.cut [])
    else none
   | _=>none
  | _,_,_=>none
 | _=>none
def Ck.Du(b:Nat):Ck→Bool
 | .MO b'=>b==b'
 | _=>false
def Ck.xI(b:Nat):Ck→Bool
 | .vB b'=>b==b'
 | _=>false
def swapAt(hp:List Ck)(i j:Nat):List Ck:=
 match hp[i]?,hp[j]? with
 | some d,some c=>(hp.set i c).set j d
 | _,_=>hp
def abx(st:St)(s:Nat):Option Nat:=
 match look st.fr s with
 | some (.ptr b _)=>(findAt st.hp b).map (·.1)
 | some (.vv v)=>(eK st.hp v).map (·.1)
 | some (.sl b _ _ _ _)=>(findAt st.hp b).map (·.1)
 | _=>none
def eI(T:List TI)(st:St)(x:tL):Option (St×BH):=
 match x with
 | .slot s t=>match look st.fr s with
  | some .bx=>(LU T st t).map fun d_=>(d_.put (some s) (.vv st.a_.v),.nil)
  | _=>none
 | .cell i j t=>match st.hp[i]? with
  | some (.row b w cs)=>match cs[j]? with
   | some .bx=>(LU T st t).map fun d_=>({d_ with hp:=d_.hp.set i (.row b w (cs.set j (.vv st.a_.v)))},.nil)
   | _=>none
  | _=>none
 | .cut s md=>match look st.fr s with
  | some x=>(BI st x md).map fun y=>(y.1.put (some s) (.vv st.a_.v),y.2)
  | none=>none
 | .qv i j md=>match st.hp[i]? with
  | some (.row b w cs)=>match cs[j]? with
   | some x=>match BI st x md with
    | some (d_,wr)=>match d_.hp[i]? with
     | some (.row b' w' _)=>if b'=b∧w'=w then some ({d_ with hp:=d_.hp.set i (.row b w (cs.set j (.vv st.a_.v)))},wr)else none
     | _=>none
    | none=>none
   | none=>none
  | _=>none
 | .marks=>some ({st with nt:={st.nt with ds:= .many st.a_.b::st.nt.ds},hp:=st.hp++[.vB st.a_.b],a_:={st.a_ with b:=st.a_.b+1}},.tS)
 | .mark=>match st.nt.ds with
  | .one b:: .many c::ds=>match st.hp.findIdx? (Ck.Du b),st.hp.findIdx? (Ck.xI c)with
   | some i,some j=>some ({st with nt:={st.nt with ds:= .many st.a_.b::ds},hp:=(st.hp.set i .emp).set j (.vB st.a_.b),a_:={st.a_ with b:=st.a_.b+1}},.tS)
   | _,_=>none
  | .many _::_=>some (st,.same)
  | _=>none
 | .own s t=>match look st.fr s with
  | some x=>(Tl st x t).map fun y=>(y.1.put (some s) (.vv st.a_.v),y.2)
  | none=>none
 | .swap s i=>match abx st s with
  | some j=>some ({st with hp:=swapAt st.hp i j},.same)
  | none=>none
def uK(T:List TI):St→List tL→Option (St×List BH)
 | st,[]=>some (st,[])
 | st,x::r=>match eI T st x with
  | some (d_,y)=>match uK T d_ r with
   | some (s2,k)=>some (s2,y::k)
   | none=>none
  | none=>none
def vcF:List BE→F→F
 | [],f=>f
 | b::r,f=> .vc b (vcF r f)
def iq:List BH→F→F
 | [],f=>f
 | .nil::r,f=> .Iy (iq r f)
 | .tS::r,f=> .DB (iq r f)
 | .same::r,f=>iq r f
 | .cut vcs::r,f=>vcF vcs (.wN (iq r f))
def BJ(look:Nat→Option SV)(o:Oper):Option (Nat×List SV):=
 match o.op with
 | .call {callee:= .value f,args,.. }=>
  match j8 look f,j9 (args.toList.map (j8 look))with
  | some (.fn f jq),some az=>some (f,az++jq)
  | some (.fm f first),some az=>some (f,first++az)
  | _,_=>none
 | _=>none
def fI(n:Nat):List SV→List (Nat×SV)
 | []=>[]
 | v::r=>(n,v)::fI (n+1) r
def sY(known:List BE)(b:BE):BE:=
 match b with
 | .lit x=> .lit x
 | b=>if b.sc {}then .lit (b.den Ay)else if known.contains b then .lit true else if known.contains (j5 b)then .lit false else b
def SV.Kb(c:BE):SV→SV
 | .opt c' v=>
  if c'=c then v else
  match c' with
  | .and a b=>if a=c then .opt b v else .opt (.and a b) v
  | c'=> .opt c' v
 | .bool b=>if b=c then .bool (.lit true)else .bool b
 | v=>v
def SV.tj(c:BE):SV→SV
 | .opt c' v=>
  if c'=c then .undef else
  match c' with
  | .and a b=>if a=c then .undef else .opt (.and a b) v
  | c'=> .opt c' v
 | .bool b=>if b=c then .bool (.lit false)else .bool b
 | v=>v
def St.Kb(c:BE)(st:St):St:={st with fr:=st.fr.map fun x=>(x.1,x.2.Kb c),known:=c::st.known}
def St.tj(c:BE)(st:St):St:={st with fr:=st.fr.map fun x=>(x.1,x.2.tj c),known:=j5 c::st.known}
def under(c:BE)(lk:Nat→Option SV)(s:Nat):Option SV:=
 match lk s with
 | some (.opt c' v)=>
  if c'=c then some v else
  match c' with
  | .and a b=>if a=c then some (.opt b v)else some (.opt (.and a b) v)
  | c'=>some (.opt c' v)
 | x=>x
def Kc(fr:List (Nat×SV))(known:List BE)(x:Operand):Option BE:=
 match j8 (look fr) x with
 | some (.bool b)=>some (sY known b)
 | _=>none
def sO(all:Array Oper)(fr:List (Nat×SV))(known:List BE)(o:Oper):Option (Option BE):=
 match guardOf all fr o with
 | some (some b)=>match sY known b with
  | .lit true=>some none
  | b=>some (some b)
 | x=>x
def SV.fix(known:List BE):SV→SV
 | .opt c v=>match sY known c with
  | .lit true=>v
  | .lit false=> .undef
  | _=> .opt c v
 | .bool b=> .bool (sY known b)
 | v=>v
def SV.aby(c:BE)(known:List BE):SV→SV
 | .bool b=>if known.contains (j5 (B_ c b))then .bool (.lit false)else .bool b
 | .opt b v=>if known.contains (j5 (B_ c b))then .undef else .opt b v
 | v=>v
def CZ(g:Option BE)(known:List BE)(fr:List (Nat×SV))(s:Nat):Option SV:=
 match g with
 | some c=>(under c (look fr) s).map fun v=>(v.fix known).aby c known
 | none=>(look fr s).map (SV.fix known)
def Op.quiet:Op→Bool
 | .move _ | .assign _ | .pick .. | .build .. | .load .. | .nilCheck _ | .binOp .. | .unOp .. | .sliceToArrayPointer .. | .fieldAddr .. | .field .. | .indexAddr .. | .index .. | .extract .. | .makeFunc .. | .makeInterface .. | .slice .. | .lookup .. =>true
 | .convert a b _=> !(a==b)
 | .call {callee:= .builtin .len,.. }=>true
 | .call {callee:= .builtin .max,.. }=>true
 | .call {callee:= .builtin .min,.. }=>true
 | _=>false
def nH(all:Array Oper)(done:Nat)(i:Nat):Bool:=
 match all[i]? with
 | some o=>o.after.toList.all fun e=> !au_ .any e||done.testBit e.on
 | none=>false
def Tm(all:Array Oper):List Nat→List Nat→List Nat
 | [],acc=>acc
 | i::r,acc=>
  match all[i]? with
  | some o=>Tm all r (acc++[o.after.toList.foldl (fun s e=>if au_ .any e&&auS e.on i then s|||(1 <<< e.on)|||acc.getD e.on 0 else s) 0])
  | none=>acc
def slotsOf(all:Array Oper)(o:Oper):List Nat:=
 o.op.operands.toList.filterMap (fun | .tmp t=>some t | _=>none)++
  (match o.guard with | some (j,_)=>(match all[j]? with | some oj=>oj.dst.toList | none=>[]) | none=>[])
def mf(all:Array Oper)(pm:List Nat):Bool:=
 (List.range all.size).all fun i=>
  match all[i]? with
  | some oi=>
   match oi.dst with
   | some d=>
    (List.range all.size).all fun j=>
     match all[j]? with
     | some oj=>i==j|| !((slotsOf all oj).contains d||oj.dst==some d)||(pm.getD j 0).testBit i||(pm.getD i 0).testBit j
     | none=>true
   | none=>true
  | none=>true
def Ap(all:Array Oper)(pm:List Nat):Bool:=
 (List.range all.size).all fun p=>
  match all[p]? with
  | some o=>
   (o.after.toList.all fun e=> !au_ .any e||auS e.on p)&&
   ((List.range all.size).all fun q=> !(pm.getD p 0).testBit q||o.after.toList.any fun e=>au_ .any e&&(q==e.on||(pm.getD e.on 0).testBit q))
  | none=>true
def DY(all:Array Oper)(i:Nat):Bool:=
 match all[i]? with
 | some o=>Op.quiet o.op
 | none=>false
def restrict(fr:List (Nat×SV))(aX:List Nat):List (Nat×SV):=fr.filter fun x=>aX.contains x.1
def kept(c:cG)(hp nh:List Ck)(rd:List Nat):Bool:=
 rd.all fun j=>
  match hp[j]?,nh[j]? with
  | some a,some b=>(match zo a b with | some l=>l.all (g_.trivial c) | none=>false)
  | none,_=>true
  | _,_=>false
def hU(st:St)(fn:Nat)(nt:NT)(fr:List (Nat×SV)):St:={st with fn:=fn,nt:=nt,fr:=fr}
def rP(st:St)(d:Option Nat):Bool:=
 match d with
 | some d=>auS d st.nt.n
 | none=>true
def qj(C:Ctx)(g:Option BE)(st:St)(o:Oper):Option iC:=
 match eg C.T (CZ g st.known st.fr) st.hp st.a_.b st.a_.v o with
 | some res=>if res.sc st.a_ then some res else none
 | none=>none
def F7(C:Ctx)(g:Option BE)(st:St)(o:Oper):Option iC:=
 match g with
 | some (.lit false)=>some {val:= .undef}
 | g=>qj C g st o
def gsc(c:cG):Option BE→Bool
 | some b=>b.sc c
 | none=>true
def MV:Option BE→SV→SV
 | some c,v=> .opt c v
 | none,v=>v
def DW:Option BE→List BE→List BE→List BE
 | some _,_,k=>k
 | none,vcs,k=>more vcs k
def leave:List Ck→List MK→Option (List Ck)
 | hp,[]=>some hp
 | hp,.one d::ds=>
  match hp.findIdx? (Ck.Du d)with
  | some i=>leave (hp.set i .emp) ds
  | none=>none
 | hp,.many d::ds=>
  match hp.findIdx? (Ck.xI d)with
  | some i=>leave (hp.set i .emp) ds
  | none=>none
def ou(st:St):Option St:=(leave st.hp st.nt.ds).map fun hp=>{st with hp:=hp}
def sZ(l:Nat):List KI→Option (Nat×Nat×NT×List (Nat×SV)×Array Tmp×Code×Code)
 | []=>none
 | .rf l' r fn nt fr ps x y _::k=>if l'==l then some (r,fn,nt,fr,ps,x,y)else sZ l k
 | _::k=>sZ l k
def Ck.isRec(l:Nat):Ck→Bool
 | .my l' _ _ _=>l==l'
 | _=>false
def recAt(hp:List Ck)(l:Nat):Option (Nat×Nat×RS×Jump):=
 match hp.findIdx? (Ck.isRec l)with
 | some i=>
  match hp[i]? with
  | some (.my _ r s j)=>some (i,r,s,j)
  | _=>none
 | none=>none
def mA(st:St):List (Nat×SV)→Option St
 | []=>some st
 | (d,v)::r=>if rP st (some d)&&v.sc st.a_ then mA (st.put (some d) v) r else none
def Tn(look:Nat→Option SV)(o:Oper):Option (Nat×List SV):=
 match o.op with
 | .call {callee:= .value f,args,.. }=>
  match j8 look f,j9 (args.toList.map (j8 look))with
  | some (.Mk l),some az=>some (l,az)
  | _,_=>none
 | _=>none
def run(C:Ctx):Nat→List KI→St→F
 | 0,_,_=> .fail "fuel"
 | _+1,[],_=> .fail "end"
 | n+1,.tS _::k,st=>run C n k st
 | n+1,.gh g::k,st=>
  match g st with
  | none=>run C n k st
  | some s=>
   match s.split with
   | some b=>if b.sc st.a_ then .fork b (run C n (.gh g::k) {st with known:=b::st.known}) (run C n (.gh g::k) {st with known:=j5 b::st.known})else .fail "scope"
   | none=>
   match s.pick with
   | some idx=>if idx.all (fun i=>auS i st.hp.length)&&decide idx.Nodup then run C n k {st with hp:=idx.map fun i=>st.hp.getD i .emp}else .fail "pick"
   | none=>
   let oa:=st.a_.add s.inc
   match om s.aX st.fr with
   | some eqs=>
    if mP oa s.aX&&s.new.all (Ck.sc oa)&&s.use.all (fun i=>auS i st.hp.length)&&decide s.use.Nodup then
     .ghost (s.use.map fun i=>st.hp.getD i .emp) s.inc eqs s.new (run C n k {st with fr:=s.aX++st.fr.filter (fun x=> !(s.aX.any fun y=>y.1==x.1)),hp:=g9 st.hp s.use s.new,a_:=oa})
    else .fail "scope"
   | none=> .fail "ghost"
 | n+1,.again body::k,st=>run C n (.code body:: .again body::k) st
 | _+1,.loop up nt c0 inc fr hp bk::_,st=>
  match uK C.T st bk with
  | none=> .fail "nil back"
  | some (st,nn)=>
  iq nn <|
  match om fr st.fr,oq hp st.hp,mZ nt.ds st.nt.ds with
  | some a,some b,some d=>if st.nt.n != nt.n then .fail "frame" else .back up c0 inc ((a++b++d).filter fun q=> !q.trivial c0)
  | _,_,none=> .fail "marks"
  | _,_,_=> .fail "back"
 | _+1,.jn _ up nt c0 inc fr hp pre::_,st=>
  match uK C.T st pre with
  | none=> .fail "nil join"
  | some (st,nn)=>
  iq nn <|
  match om fr st.fr,oq hp st.hp,mZ nt.ds st.nt.ds with
  | some a,some b,some d=>if st.nt.n != nt.n then .fail "frame" else .meet up c0 inc ((a++b++d).filter fun q=> !q.trivial c0)
  | _,_,none=> .fail "join marks"
  | none,_,_=> .fail "join slots"
  | _,_,_=> .fail "join"
 | n+1,.call fn nt fr d f::k,st=>
  match ou st with
  | some st=>
   match BG C.T st f with
   | some v=>if rP (hU st fn nt fr) d&&v.sc st.a_ then run C n k ((hU st fn nt fr).put d v)else .fail "destination"
   | none=> .fail "results"
  | none=> .fail "marks"
 | _+1,.top f::_,st=>
  match ou st with
  | some st=>
   match BG C.T st f with
   | some v=> .ret v st.hp
   | none=> .fail "results"
  | none=> .fail "marks"
 | n+1,.code c::k,st=>
  match c with
  | .skip=>run C n k st
  | .label _=>run C n k st
  | .seq a b=>run C n (.code a:: .code b::k) st
  | .cond x t e=>
   match Kc st.fr st.known x with
   | some (.lit true)=>run C n (.code t::k) st
   | some (.lit false)=>run C n (.code e::k) st
   | some b=>if b.sc st.a_ then .fork b (run C n (.code t::k) {st with known:=b::st.known}) (run C n (.code e::k) {st with known:=j5 b::st.known})else .fail "scope"
   | none=> .fail "cond"
  | .block id b=>
   match C.Yh st.fn id with
   | none=>run C n (.code b:: .tS id::k) st
   | some ja=>
    let ws:=writes b
    let aX:=ja.aX st.a_
    let Iu:=aX++st.fr.filter fun x=> !(ws.contains x.1)&& !(aX.any fun y=>y.1==x.1)
    let nh:=ja.hp st.a_ st.hp
    let oa:=st.a_.add ja.inc
    let zH:NT:={st.nt with ds:=ja.ds st.a_ st.nt.ds}
    if mP oa aX&&nh.all (Ck.sc oa)&&aX.all (fun x=>auS x.1 st.nt.n)&&zH.ds.all (MK.sc oa)then
     .join (nl k) ja.inc (run C n (.code b:: .jn (some id) (nl k) zH st.a_ ja.inc Iu nh ja.pre::k) st) (run C n k {st with fr:=Iu,hp:=nh,a_:=oa,known:=[],nt:=zH})
    else .fail "scope"
  | .loop body=>
   match k with
   | .tS id::_=>
    match C.loops st.fn id with
    | none=>run C n (.code body:: .again body::k) st
    | some la=>
     match uK C.T st la.pre with
     | none=> .fail "nil" id
     | some (st,nn)=>
     iq nn <|
     let ws:=writes body
     let aX:=la.aX st.a_
     let Iu:=aX++st.fr.filter fun x=> !(ws.contains x.1)&& !(aX.any fun y=>y.1==x.1)
     let nh:=la.hp st.a_ st.hp
     let oa:=st.a_.add la.inc
     let zH:NT:={st.nt with ds:=la.ds st.a_ st.nt.ds}
     match om aX st.fr,oq nh st.hp,mZ zH.ds st.nt.ds with
     | some a,some b,some d=>
      if mP oa aX&&nh.all (Ck.sc oa)&&aX.all (fun x=>auS x.1 st.nt.n)&&zH.ds.all (MK.sc oa)then
       .loop (nl k) la.inc ((a++b++d).filter fun q=> !q.trivial st.a_)
        (run C n (.code body:: .loop (nl k) zH st.a_ la.inc Iu nh la.back::k) {st with fr:=Iu,hp:=nh,a_:=oa,known:=[],nt:=zH})
      else .fail "scope"
     | _,_,_=> .fail "loop entry" id
   | _=>run C n (.code body:: .again body::k) st
  | .exit id=>match dZ id k with
   | some k'=>run C n k' st
   | none=> .fail "exit" id
  | .ret=>match iT k with
   | some k'=>run C n k' st
   | none=> .fail "ret"
  | .region id ops false=>
   match C.mE st.fn id with
   | none=>run C n (.ops ops ops.toList::k) st
   | some g=>run C n (.ops ops ops.toList:: .gh g::k) st
  | .region id ops true=>
   let pm:=Tm ops (List.range ops.size) []
   if mf ops pm&&Ap ops pm then
    match C.Yh st.fn (id+100000)with
    | some ja=>
     let aX:=ja.aX st.a_
     let Iu:=aX++st.fr.filter fun x=> !((writes (.region id ops true)).contains x.1)&& !(aX.any fun y=>y.1==x.1)
     let nh:=ja.hp st.a_ st.hp
     let oa:=st.a_.add ja.inc
     let zH:NT:={st.nt with ds:=ja.ds st.a_ st.nt.ds}
     if mP oa aX&&nh.all (Ck.sc oa)&&aX.all (fun x=>auS x.1 st.nt.n)&&zH.ds.all (MK.sc oa)then
      .join (nl k) ja.inc (run C n (.um ops pm (List.range ops.size) 0 []:: .gh ja.gh:: .jn none (nl k) zH st.a_ ja.inc Iu nh ja.pre::k) st) (run C n k {st with fr:=Iu,hp:=nh,a_:=oa,known:=[],nt:=zH})
     else .fail "scope"
    | none=>
    match C.mE st.fn id with
    | none=>run C n (.um ops pm (List.range ops.size) 0 []::k) st
    | some g=>run C n (.um ops pm (List.range ops.size) 0 []:: .gh g::k) st
   else .fail "order"
  | .rangeFunc g ps x y=>
   match j8 (look st.fr) g with
   | some (.fn f jq)=>
    match C.FT.find? fun x=>x.1==f with
    | none=> .fail "call" f
    | some (_,fd)=>
     match fd.body with
     | none=> .fail "no body" f
     | some c=>
      if SV.qM st.a_ jq then
       match BF k with
       | none=>
        .pX true (run C n (.code c:: .rf (st.a_.b+1) st.a_.r st.fn ⟨st.nt.n,.one st.a_.b::st.nt.ds⟩ st.fr ps x y fd::k)
         (hU {st with hp:=st.hp++[.MO st.a_.b]++[.my (st.a_.b+1) st.a_.r .ready .none],a_:={st.a_ with b:=st.a_.b+2,r:=st.a_.r+1}} f ⟨fd.ntmps,[]⟩ (fI 0 (.Mk (st.a_.b+1)::jq))))
       | some l0=>
        match recAt st.hp l0 with
        | some _=>
         .pX false (run C n (.code c:: .rf st.a_.b st.a_.r st.fn st.nt st.fr ps x y fd::k)
          (hU {st with hp:=st.hp++[.my st.a_.b st.a_.r .ready .none],a_:={st.a_ with b:=st.a_.b+1,r:=st.a_.r+1}} f ⟨fd.ntmps,[]⟩ (fI 0 (.Mk st.a_.b::jq))))
        | none=> .fail "round"
      else .fail "scope"
   | _=> .fail "range over what"
  | _=> .fail "code"
 | n+1,.ops _ []::k,st=>run C n k st
 | n+1,.ops all (o::rest)::k,st=>
  if rP st o.dst then
  match sO all st.fr st.known o with
  | none=> .fail "guard" (st.fn*1000+o.dst.getD 0)
  | some (some (.lit false))=>run C n (.ops all rest::k) (st.put o.dst .undef)
  | some (some c)=>
   if c.sc st.a_ then
    match qj C (some c) st o with
    | some res=>
     match res.iD with
     | .none=>sx (some c) res.vcs st.known (run C n (.ops all rest::k) (st.put o.dst (.opt c res.val)))
     | _=> .fork c (run C n (.ops all ({o with guard:=none}::rest)::k) (st.Kb c)) (run C n (.ops all rest::k) ((st.tj c).put o.dst .undef))
    | none=> .fork c (run C n (.ops all ({o with guard:=none}::rest)::k) (st.Kb c)) (run C n (.ops all rest::k) ((st.tj c).put o.dst .undef))
   else .fail "scope"
  | some none=>
   match qj C none st o with
   | some res=>
    let nx:=run C n (.ops all rest::k) (({dY st res.iD with known:=more res.vcs st.known}).put o.dst res.val)
    sx none res.vcs st.known (match res.iD with | .new _=> .DB nx | .app .. => .wN nx | .own .. => .wN nx | .FZ .. => .wN nx | _=>nx)
   | none=>
    match BJ (look st.fr) o with
    | some (f,az)=>
     match C.FT.find? fun x=>x.1==f with
     | none=> .fail "call" f
     | some (_,fd)=>
      match fd.body with
      | none=>
       match Yi C st.fn (o.dst.getD 0) f with
       | some ca=>
        if(sX ca az st.hp st.a_).sc (st.a_.add ca.inc)&&(ca.new st.a_ ((ca.use az st.hp).map fun i=>st.hp.getD i .emp)).all (Ck.sc (st.a_.add ca.inc))&&(ca.use az st.hp).all (fun i=>auS i st.hp.length)&&decide (ca.use az st.hp).Nodup then
         .ext f az ((ca.use az st.hp).map fun i=>st.hp.getD i .emp) ca.inc (sX ca az st.hp st.a_) (ca.new st.a_ ((ca.use az st.hp).map fun i=>st.hp.getD i .emp))
          (run C n (.ops all rest::k) ({st with hp:=g9 st.hp (ca.use az st.hp) (ca.new st.a_ ((ca.use az st.hp).map fun i=>st.hp.getD i .emp)),a_:=st.a_.add ca.inc}.put o.dst (sX ca az st.hp st.a_)))
        else .fail "scope"
       | none=> .fail "no body" f
      | some c=>
       match E1 C f az st.hp with
       | some r=>
        if r.val.sc st.a_&&r.new.all (Ck.sc st.a_)&&r.use.all (fun i=>auS i st.hp.length)&&decide r.use.Nodup then
         sx none r.vcs st.known (run C n (.ops all rest::k) ({st with hp:=g9 st.hp r.use r.new}.put o.dst r.val))
        else .fail "scope"
       | none=>
       match Yi C st.fn (o.dst.getD 0) f with
       | some ca=>
        let use:=ca.use az st.hp
        let new:=ca.new st.a_ (use.map fun i=>st.hp.getD i .emp)
        let v:=sX ca az st.hp st.a_
        let oa:=st.a_.add ca.inc
        if v.sc oa&&new.all (Ck.sc oa)&&use.all (fun i=>auS i st.hp.length)&&decide use.Nodup then
         .call f az (use.map fun i=>st.hp.getD i .emp) ca.inc v new (run C n (.ops all rest::k) ({st with hp:=g9 st.hp use new,a_:=oa}.put o.dst v))
        else .fail "scope"
       | none=>
        if SV.qM st.a_ az then run C n (.code c:: .call st.fn st.nt st.fr o.dst fd:: .ops all rest::k) (hU st f ⟨fd.ntmps,[]⟩ (fI 0 az))else .fail "scope"
    | none=>
    match Tn (look st.fr) o with
    | some (l,az)=>
     match sZ l k,recAt st.hp l with
     | some (r,fn,nt,fr,ps,x,y),some (_,r',_,_)=>
      if r=r'&&az.length==ps.size then
       match mA (hU st fn ⟨nt.n,[]⟩ fr) (ps.toList.zip az)with
       | some m5=>run C n (.code x:: .begin l:: .code y:: .round l st.fn st.nt st.fr o.dst:: .ops all rest::k) m5
       | none=> .fail "slot"
      else .fail "yield"
     | _,_=> .fail "yield"
    | none=> .fail "op" (st.fn*1000+o.dst.getD 0)
  else .fail "slot"
 | n+1,.rf l _ fn nt fr _ _ _ fd::k,st=>
  match ou st with
  | some st=>
   match BG C.T st fd,recAt st.hp l with
   | some _,some (i,r,s,j)=>
    if s= .busy then .fail "busy" else
    match j with
    | .none=>run C n k (hU {st with hp:=st.hp.set i (.my l r .exhausted j)} fn nt fr)
    | .ret=>run C n (.code .ret::k) (hU {st with hp:=st.hp.set i (.my l r .exhausted j)} fn nt fr)
    | .exit id=>run C n (.code (.exit id)::k) (hU {st with hp:=st.hp.set i (.my l r .exhausted j)} fn nt fr)
   | _,_=> .fail "results"
  | none=> .fail "marks"
 | n+1,.begin l::k,st=>
  match recAt st.hp l with
  | some (i,r,.ready,j)=>run C n k {st with hp:=st.hp.set i (.my l r .busy j)}
  | _=> .fail "not ready"
 | n+1,.round l fn nt fr d::k,st=>run C n (.nE l .none fn nt fr d::k) st
 | n+1,.nE l j fn nt fr d::k,st=>
  match recAt st.hp l with
  | some (i,r,_,_)=>
   if rP (hU st fn nt fr) d then
    run C n k ((hU {st with hp:=st.hp.set i (.my l r (if j= .none then .ready else .done) j)} fn nt fr).put d (.bool (.lit (decide (j= .none)))))
   else .fail "slot"
  | none=> .fail "record"
 | n+1,.um all pm rest done log::k,st=>
  match rest with
  | []=>run C n k st
  | _=>
   match rest.find? fun i=>DY all i&&nH all done i with
   | some i=>
    match all[i]? with
    | some o=>
     if rP st o.dst then
      match sO all (restrict st.fr (slotsOf all o)) st.known o with
      | none=> .fail "guard" i
      | some g=>
       if gsc st.a_ g then
        match F7 C g {st with fr:=restrict st.fr (slotsOf all o)} o with
        | some res=>
         match res.iD with
         | .none=>
          sx g res.vcs st.known (run C n (.um all pm (rest.filter fun j=>j != i) (done|||(1 <<< i)) ((i,res.rd)::log)::k)
           (({st with known:=DW g res.vcs st.known}).put o.dst (MV g res.val)))
         | _=> .fail "effect" i
        | none=> .fail "quiet" i
       else .fail "scope"
     else .fail "slot"
    | none=> .fail "no op"
   | none=>
    Qf ((rest.filter (nH all done)).map fun e=>
     match all[e]? with
     | some o=>
      if rP st o.dst then run C n (.ops all [o]:: .Qd all pm e rest done log st.fn st.nt st.fr st.hp st.a_::k) {st with fr:=restrict st.fr (slotsOf all o)}else .fail "slot"
     | none=> .fail "no op")
 | n+1,.Qd all pm e rest done log fn nt fr hp a_::k,st=>
  match all[e]? with
  | some o=>
   if(log.all fun x=>(pm.getD e 0).testBit x.1||kept a_ hp st.hp x.2)&&st.nt==nt then
    match (match o.dst with | some d=>look st.fr d | none=>some .undef)with
    | some v=>run C n (.um all pm (rest.filter fun j=>j != e) (done|||(1 <<< e)) log::k) ((hU st fn nt fr).put o.dst v)
    | none=> .fail "result"
   else .fail "read beside"
  | none=> .fail "no op"
def nZ(C:Ctx)(f:Nat)(args:List SV)(hp:List Ck)(a_:cG)(fd:Func):F:=
 match fd.body with
 | some c=>if SV.qM a_ args&&hp.all (Ck.sc a_)then run C 100000 [.code c,.top fd] {fn:=f,fr:=fI 0 args,hp:=hp,a_:=a_,nt:=⟨fd.ntmps,[]⟩}else .fail "scope"
 | none=> .fail "no body"
end Go.RX
