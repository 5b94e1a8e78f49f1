/- Executor. -/
import Derived.Test.YtmgbbbmdbpbeeaaGreatRxC
open Go.Region renaming binds → ajK
open List renaming range → ajw
open Nat renaming blt → aje
namespace Go.RX
def cz.add(a b:cz):cz:=⟨a.b+b.b,a.v+b.v,a.i+b.i,a.a+b.a,a.bo+b.bo,a.p+b.p,a.r+b.r⟩
inductive fA where
 | e (a b:E)
 | a (n:E) (a b:E)
 | af (a b:E)
 | b (a b:BE)
 | v (i j:Nat)
 | p (i j:Nat)
 | bl (i j:Nat)
 | rc (i j:Nat)
 deriving Repr
inductive F where
 | fail (s:String) (slot:Nat:=0)
 | vc (b:BE) (r:F)
 | fork (c:BE) (t e:F)
 | ret (v:SV) (hp:List Ck)
 | Qr (r:F)
 | DG (r:F)
 | W9 (r:F)
 | BT (outer:Bool) (r:F)
 | call (f:Nat) (args:List SV) (use:List Ck) (inc:cz) (val:SV) (new:List Ck) (r:F)
 | ext (f:Nat) (args:List SV) (use:List Ck) (inc:cz) (val:SV) (new:List Ck) (r:F)
 | loop (up:Nat) (inc:cz) (eqs:List fA) (body:F)
 | back (up:Nat) (c0:cz) (inc:cz) (eqs:List fA)
 | join (up:Nat) (inc:cz) (body r:F)
 | meet (up:Nat) (c0:cz) (inc:cz) (eqs:List fA)
 | ghost (use:List Ck) (inc:cz) (eqs:List fA) (new:List Ck) (r:F)
 | both (a b:F)
 deriving Inhabited
def MO:List F→F
 | []=> .fail "none"
 | [x]=>x
 | x::y::r=> .both x (MO (y::r))
def E.sc(c:cz):E→Bool
 | .lit _=>true
 | .var i=>aje i c.i
 | .aN i=>aje i c.a
 | .P1 a i=>a.sc c&&i.sc c
 | .bin _ _ a b=>a.sc c&&b.sc c
 | .wrap _ a=>a.sc c
 | .sD a i v=>a.sc c&&i.sc c&&v.sc c
 | .shift a o=>a.sc c&&o.sc c
 | .rl a o n b=>a.sc c&&o.sc c&&n.sc c&&b.sc c
 | .kc _ a=>a.sc c
 | .oZ b=>aje b c.b
 | .o3 _=>true
 | .Qn a i=>a.sc c&&i.sc c
 | .po a i s=>a.sc c&&i.sc c&&s.sc c
 | .S9 s=>s.sc c
def BE.sc(c:cz):BE→Bool
 | .lit _=>true
 | .var i=>aje i c.bo
 | .eq a b=>a.sc c&&b.sc c
 | .lt a b=>a.sc c&&b.sc c
 | .le a b=>a.sc c&&b.sc c
 | .nz a=>a.sc c
 | .S_ _ a b=>a.sc c&&b.sc c
 | .not a=>a.sc c
 | .and a b=>a.sc c&&b.sc c
 | .or a b=>a.sc c&&b.sc c
 | .ite x t e=>x.sc c&&t.sc c&&e.sc c
 | .seq a b=>a.sc c&&b.sc c
def Cut.sc(c:cz)(k:Cut):Bool:=k.lo.sc c&&k.hi.sc c&&(match k.mx with | some m=>m.sc c | none=>true)
mutual
def SV.sc(c:cz):SV→Bool
 | .int _ e=>e.sc c
 | .bool b=>b.sc c
 | .ptr b _=>aje b c.b
 | .o5 b i _ _=>aje b c.b&&i.sc c
 | .pv v i _ _=>aje v c.v&&i.sc c
 | .sl b i _ n m=>aje b c.b&&i.sc c&&n.sc c&&m.sc c
 | .vv i=>aje i c.v
 | .fn _ jK=>SV.o6 c jK
 | .agg cs=>SV.o6 c cs
 | .b_ _ _ a=>a.sc c
 | .mu vs=>SV.o6 c vs
 | .opt b v=>b.sc c&&v.sc c
 | .DE _ i=>i.sc c
 | .Kf l=>aje l c.b
 | .mp b=>aje b c.b
 | .kg v cs _=>aje v c.v&&cs.all (Cut.sc c)
 | .n8 e=>e.sc c
 | .Kg e=>e.sc c
 | .kK e=>e.sc c
 | .GK b v=>b.sc c&&aje v c.v
 | .MH _ _ e=>e.sc c
 | _=>true
def SV.o6(c:cz):List SV→Bool
 | []=>true
 | v::r=>v.sc c&&SV.o6 c r
end
def CK.sc(c:cz):CK→Bool
 | .Gt l=>l.all fun n=>aje n c.v
 | .pt i v=>i.sc c&&aje v c.v
 | _=>true
def bR.sc(c:cz)(k:bR):Bool:=k.a.sc c&&k.ck.sc c
def Ck.sc(c:cz):Ck→Bool
 | .emp=>true
 | .row b _ cs=>aje b c.b&&SV.o6 c cs
 | .bK _ v _ _ n aD=>aje v c.v&&n.sc c&&aD.all (bR.sc c)
 | .abs i=>aje i c.p
 | .kP l r _ _=>aje l c.b&&aje r c.r
 | .Ki b=>aje b c.b
 | .qZ b=>aje b c.b
 | .map b _ _ _ zero has aD=>aje b c.b&&SV.o6 c zero&&has.sc c&&aD.all (bR.sc c)
 | .sJ b _ _ _ zero es=>aje b c.b&&SV.o6 c zero&&es.all fun e=>SV.o6 c e.2
 | .IL b _ _ n a=>aje b c.b&&n.sc c&&a.sc c
 | .Td b _ _=>aje b c.b
def kZ(c:cz)(fr:List (Nat×SV)):Bool:=fr.all fun x=>x.2.sc c
def zX.sc(c:cz):zX→Bool
 | .none=>true
 | .new (.row _ _ cs)=>SV.o6 c cs
 | .new (.map _ _ _ _ zero has aD)=>SV.o6 c zero&&has.sc c&&aD.all (bR.sc c)
 | .new (.sJ _ _ _ _ zero es)=>SV.o6 c zero&&es.all fun e=>SV.o6 c e.2
 | .new (.IL _ _ _ n a)=>n.sc c&&a.sc c
 | .new (.Td _ _ _)=>true
 | .set _ ck=>ck.sc c
 | .app _ (.bK _ _ _ _ n aD)=>n.sc c&&aD.all (bR.sc c)
 | .own (.bK _ _ _ _ n aD)=>n.sc c&&aD.all (bR.sc c)
 | .DH (.bK _ _ _ _ n aD)=>n.sc c&&aD.all (bR.sc c)
 | _=>false
def zX.grow(c:cz):zX→cz
 | .new _=>{c with b:=c.b+1}
 | .app .. =>{c with v:=c.v+1}
 | .own .. =>{c with v:=c.v+1}
 | .DH .. =>{c with v:=c.v+1}
 | _=>c
def hU.sc(c:cz)(r:hU):Bool:=r.val.sc (r.hZ.grow c)&&r.vcs.all (BE.sc c)&&r.hZ.sc c
inductive MK where
 | one (b:Nat)
 | many (b:Nat)
 deriving DecidableEq,Repr
def MK.sc(c:cz):MK→Bool
 | .one b=>aje b c.b
 | .many b=>aje b c.b
def k9:List MK→List MK→Option (List fA)
 | [],[]=>some []
 | .one b::r,.one b'::r'=>(k9 r r').map (.bl b b':: ·)
 | .many b::r,.many b'::r'=>(k9 r r').map (.bl b b':: ·)
 | _,_=>none
structure NT where
 n:Nat:=0
 ds:List MK:=[]
 deriving DecidableEq,Repr,Inhabited
structure St where
 fn:Nat:=0
 fr:List (Nat×SV):=[]
 hp:List Ck:=[]
 aV:cz:={}
 known:List BE:=[]
 nt:NT:={}
 deriving Inhabited
def look(fr:List (Nat×SV))(s:Nat):Option SV:=
 match fr with
 | []=>none
 | (t,v)::r=>if t==s then some v else look r s
def St.put(st:St)(d:Option Nat)(v:SV):St:=
 match d with
 | some d=>{st with fr:=(d,v)::st.fr.filter fun x=> !(x.1==d)}
 | none=>st
structure aL where
 use:List SV→List Ck→List Nat
 inc:cz:={}
 val:cz→SV
 new:cz→List Ck→List Ck
 valOf:Option (List SV→List Ck→SV):=none
def qv(ca:aL)(az:List SV)(hp:List Ck)(c:cz):SV:=
 match ca.valOf with
 | some g=>g az hp
 | none=>ca.val c
inductive rn where
 | slot (s t:Nat)
 | cell (i j t:Nat)
 | cut (s:Nat) (md:Bool)
 | qw (i j:Nat) (md:Bool)
 | marks
 | mark
 | swap (s i:Nat)
 | own (s t:Nat)
structure dO where
 pre:List rn:=[]
 inc:cz:={}
 aO:cz→List (Nat×SV)
 hp:cz→List Ck→List Ck:=fun _ h=>h
 back:List rn:=[]
 ds:cz→List MK→List MK:=fun _ d=>d
structure dR where
 split:Option BE:=none
 pick:Option (List Nat):=none
 use:List Nat:=[]
 inc:cz:={}
 aO:List (Nat×SV):=[]
 new:List Ck:=[]
structure Qs where
 pre:List rn:=[]
 inc:cz:={}
 aO:cz→List (Nat×SV)
 hp:cz→List Ck→List Ck:=fun _ h=>h
 ds:cz→List MK→List MK:=fun _ d=>d
 gh:St→Option dR:=fun _=>none
inductive KI where
 | gh (g:St→Option dR)
 | code (c:Code)
 | ops (all:Array Oper) (rest:List Oper)
 | rN (all:Array Oper) (pm:List Nat) (rest:List Nat) (done:Nat) (log:List (Nat×List Nat))
 | MP (all:Array Oper) (pm:List Nat) (e:Nat) (rest:List Nat) (done:Nat) (log:List (Nat×List Nat)) (fn:Nat) (nt:NT) (fr:List (Nat×SV)) (hp:List Ck) (aV:cz)
 | oZ (id:Nat)
 | again (body:Code)
 | loop (up:Nat) (nt:NT) (c0:cz) (inc:cz) (fr:List (Nat×SV)) (hp:List Ck) (bk:List rn)
 | jn (id:Option Nat) (up:Nat) (nt:NT) (c0:cz) (inc:cz) (fr:List (Nat×SV)) (hp:List Ck) (pre:List rn)
 | call (fn:Nat) (nt:NT) (fr:List (Nat×SV)) (dst:Option Nat) (callee:Func)
 | rf (l r:Nat) (fn:Nat) (nt:NT) (fr:List (Nat×SV)) (ps:Array Tmp) (assign body:Code) (callee:Func)
 | begin (l:Nat)
 | round (l:Nat) (fn:Nat) (nt:NT) (fr:List (Nat×SV)) (dst:Option Nat)
 | lJ (l:Nat) (j:Jump) (fn:Nat) (nt:NT) (fr:List (Nat×SV)) (dst:Option Nat)
 | top (callee:Func)
 deriving Inhabited
structure W_ where
 val:SV
 vcs:List BE:=[]
 use:List Nat:=[]
 new:List Ck:=[]
structure Ctx where
 T:List TI
 FT:List (Nat×Func)
 calls:Nat→Nat→Option aL:=fun _ _=>none
 loops:Nat→Nat→Option dO:=fun _ _=>none
 Te:Nat→Nat→Option Qs:=fun _ _=>none
 kQ:Nat→Nat→Option (St→Option dR):=fun _ _=>none
 bB:Nat→Option aL:=fun _=>none
 pure:Nat→Option (List SV→List Ck→Option W_):=fun _=>none
def BU(C:Ctx)(f:Nat)(az:List SV)(hp:List Ck):Option W_:=
 match C.pure f with
 | some g=>g az hp
 | none=>none
def Tf(C:Ctx)(fn d f:Nat):Option aL:=
 match C.calls fn d with
 | some ca=>some ca
 | none=>C.bB f
def lx:List Cut→List Cut→Option (List fA)
 | [],[]=>some []
 | a::r,b::r'=>
  match a.mx,b.mx,lx r r' with
  | none,none,some x=>some (.e a.lo b.lo:: .e a.hi b.hi::x)
  | some m,some m',some x=>some (.e a.lo b.lo:: .e a.hi b.hi:: .e m m'::x)
  | _,_,_=>none
 | _,_=>none
mutual
def sK:SV→SV→Option (List fA)
 | .int k a,.int k' b=>if k=k' then some [.e a b]else none
 | .bool a,.bool b=>some [.b a b]
 | .gx,.gx=>some []
 | .bU,.bU=>some []
 | .mh,.mh=>some []
 | .sF,.sF=>some []
 | .qY,.qY=>some []
 | .undef,.undef=>some []
 | .ptr b c,.ptr b' c'=>if c=c' then some [.bl b b']else none
 | .o5 b i s c,.o5 b' i' s' c'=>if c=c'∧s=s' then some [.bl b b',.e i i']else none
 | .pv b i s c,.pv b' i' s' c'=>if c=c'∧s=s' then some [.v b b',.e i i']else none
 | .sl b i s n m,.sl b' i' s' n' m'=>if s=s' then some [.bl b b',.e i i',.e n n',.e m m']else none
 | .vv i,.vv j=>some [.v i j]
 | .str l,.str l'=>if l=l' then some []else none
 | .kK s,.kK s'=>some [.af s s']
 | .GK c v,.GK c' v'=>some [.b c c',.v v v']
 | .MH t k e,.MH t' k' e'=>if t=t'∧k=k' then some [.e e e']else none
 | .kK s,.str l=>some [.af s (zY l)]
 | .fn f cs,.fn f' xJ=>if f=f' then fM cs xJ else none
 | .agg cs,.agg xJ=>fM cs xJ
 | .b_ k n a,.b_ k' n' b=>if k=k'∧n=n' then some [.a (.lit n) a b]else none
 | .mu cs,.mu xJ=>fM cs xJ
 | .opt c v,.opt c' v'=>(sK v v').map (.b c c':: ·)
 | .Kf l,.Kf l'=>some [.bl l l']
 | .mp l,.mp l'=>some [.bl l l']
 | .n8 e,.n8 e'=>some [.e e e']
 | .n8 e,.ptr b o=>if o=0 then some [.e e (.oZ b)]else none
 | .n8 e,.gx=>some [.e e (.lit 0)]
 | .ptr b o,.n8 e=>if o=0 then some [.e (.oZ b) e]else none
 | .Kg e,.Kg e'=>some [.e e e']
 | .Kg e,.bU=>some [.e e (.lit 0)]
 | .kg v cs s,.kg v' xJ s'=>if s=s' then(lx cs xJ).map (.v v v':: ·)else none
 | _,_=>none
def fM:List SV→List SV→Option (List fA)
 | [],[]=>some []
 | a::r,b::r'=>match sK a b,fM r r' with
  | some x,some y=>some (x++y)
  | _,_=>none
 | _,_=>none
end
def iR(n:E):List bR→List bR→Option (List fA)
 | [],[]=>some []
 | a::r,b::r'=>
  match a.ck,b.ck with
  | .Gt l,.Gt l'=>if l.length=l'.length∧a.w=b.w then(iR n r r').map ((l.zip l').map (fun x=>fA.v x.1 x.2)++ ·)else none
  | .pt _ _,_=>none
  | _,_=>if a.ck=b.ck∧a.w=b.w then(iR n r r').map ((if a.ck= .str then .af a.a b.a else .a (pw n (.lit a.w)) a.a b.a):: ·)
   else if a.ck= .cv∧b.ck= .bU∧a.w=b.w then(iR n r r').map (.a (pw n (.lit a.w)) a.a (.lit 0):: ·)else none
 | _,_=>none
def jS:List bR→List bR→Option (List fA)
 | [],[]=>some []
 | a::r,b::r'=>
  match a.ck with
  | .Gt _=>none
  | .pt _ _=>none
  | _=>if a.ck=b.ck∧a.w=b.w then(jS r r').map (.af a.a b.a:: ·)else none
 | _,_=>none
def rO:Nat→List SV→List SV→List SV
 | 0,_,act=>act
 | f+1,.int _ _::p,.b_ k (m+1) a::r=> .int k (gp a (.lit 0))::rO f p (if m=0 then r else .b_ k m (jT a (.lit 1))::r)
 | f+1,.b_ k n _::p,x::r=>
  if SV.width x=n then x::rO f p r else
  match jl 0 n (x::r),e_ n (x::r)with
  | some c,some d=>
   match rowOf c with
   | some (kl,e)=>if kl=List.replicate n k then .b_ k n e::rO f p d else x::r
   | none=>x::r
  | _,_=>x::r
 | f+1,_::p,x::r=>x::rO f p r
 | _+1,_,act=>act
def qx:List (Nat×List SV)→List (Nat×List SV)→Option (List fA)
 | [],[]=>some []
 | (i,v)::r,(j,u)::r'=>if i=j then(match fM v u,qx r r' with
  | some x,some y=>some (x++y)
  | _,_=>none)else none
 | _,_=>none
def w6:Ck→Ck→Option (List fA)
 | .emp,.emp=>some []
 | .row b w cs,.row b' w' xJ=>if w=w' then(fM cs (rO 200 cs xJ)).map (.bl b b':: ·)else none
 | .bK md v t s n aD,.bK md' v' t' s' n' aT=>if md=md'∧t=t'∧s=s' then(iR n aD aT).map fun r=> .v v v':: .e n n'::r else none
 | .abs i,.abs j=>some [.p i j]
 | .kP l r s j,.kP l' r' s' j'=>if s=s'∧j=j' then some [.bl l l',.rc r r']else none
 | .Ki b,.Ki b'=>some [.bl b b']
 | .qZ b,.qZ b'=>some [.bl b b']
 | .map b kl ka va z has aD,.map b' Mo ka' va' z' GL aT=>
  if kl=Mo∧ka=ka'∧va=va' then
   match fM z z',jS aD aT with
   | some x,some y=>some (.bl b b':: .af has GL::(x++y))
   | _,_=>none
  else none
 | .sJ b kl ka va z es,.sJ b' Mo ka' va' z' Xa=>
  if kl=Mo∧ka=ka'∧va=va' then
   match fM z z',qx es Xa with
   | some x,some y=>some (.bl b b'::(x++y))
   | _,_=>none
  else none
 | .IL b t e n a,.IL b' t' e' n' a'=>if t=t'∧e=e' then some [.bl b b',.e n n',.a n a a']else none
 | .Td b l p,.Td b' l' p'=>if l=l'∧p=p' then some [.bl b b']else none
 | _,_=>none
def my:List Ck→List Ck→Option (List fA)
 | [],_=>some []
 | a::r,b::r'=>match w6 a b,my r r' with
  | some x,some y=>some (x++y)
  | _,_=>none
 | _::_,[]=>none
def mz(pat act:List (Nat×SV)):Option (List fA):=
 match pat with
 | []=>some []
 | (s,v)::r=>match look act s,mz r act with
  | some v',some y=>(sK v v').map (· ++y)
  | _,_=>none
def fA.trivial(c:cz):fA→Bool
 | .e x y=>x==y&&x.sc c
 | .a n x y=>x==y&&x.sc c&&n.sc c
 | .b x y=>x==y&&x.sc c
 | .af x y=>x==y&&x.sc c
 | .v i j=>i==j&&aje i c.v
 | .p i j=>i==j&&aje i c.p
 | .bl i j=>i==j&&aje i c.b
 | .rc i j=>i==j&&aje i c.r
def writes:Code→List Nat
 | .region _ ops _=>ops.toList.filterMap (·.dst)
 | .seq a b=>writes a++writes b
 | .cond _ a b=>writes a++writes b
 | .block _ b=>writes b
 | .loop b=>writes b
 | .scope b=>writes b
 | .rangeFunc _ ps a b=>ps.toList++writes a++writes b
 | _=>[]
def cX(id:Nat):List KI→Option (List KI)
 | .oZ i::k=>if i==id then some k else cX id k
 | .again _::k=>cX id k
 | .code _::k=>cX id k
 | .ops .. ::k=>cX id k
 | .loop .. ::k=>cX id k
 | .gh _::k=>cX id k
 | .jn i up nt c0 inc fr hp pre::k=>if i==some id then some (.jn i up nt c0 inc fr hp pre::k)else cX id k
 | .round l fn nt fr d::k=>some (.lJ l (.exit id) fn nt fr d::k)
 | _=>none
def f_:List KI→Option (List KI)
 | .call fn nt fr d f::k=>some (.call fn nt fr d f::k)
 | .top f::k=>some (.top f::k)
 | .rf l r fn nt fr ps x y f::k=>some (.rf l r fn nt fr ps x y f::k)
 | .round l fn nt fr d::k=>some (.lJ l .ret fn nt fr d::k)
 | .oZ _::k=>f_ k
 | .again _::k=>f_ k
 | .code _::k=>f_ k
 | .ops .. ::k=>f_ k
 | .loop .. ::k=>f_ k
 | .jn .. ::k=>f_ k
 | .gh _::k=>f_ k
 | _=>none
def xK:List KI→Option Nat
 | []=>none
 | .call .. ::_=>none
 | .top _::_=>none
 | .rf .. ::_=>none
 | .begin l::_=>some l
 | .round l .. ::_=>some l
 | _::k=>xK k
def nl:List KI→Nat
 | []=>0
 | .loop .. ::k=>nl k+1
 | .jn .. ::k=>nl k+1
 | _::k=>nl k
def BV(T:List TI)(st:St):ResultVar→Option SV
 | .tmp t=>look st.fr t
 | .cell a t=>match aU T t,look st.fr a with
  | some ti,some x=>match w7 st.hp ti.k.agg ti.size x with
   | some r=>if r.vcs.isEmpty then some r.val else none
   | none=>none
  | _,_=>none
def xL(T:List TI)(st:St)(fn:Func):Option SV:=
 match jm (fn.results.toList.map (BV T st))with
 | some [v]=>some v
 | some vs=>some (.mu vs)
 | none=>none
def MQ:Env:={}
def BE.sure(b:BE):Bool:=b.sc {}&&b.den MQ
def more(vcs known:List BE):List BE:=vcs.filter (fun b=> !b.sure)++known
def Wz(g:Option BE)(b:BE):BE:=
 match g with
 | some c=>Z0 (iI c) b
 | none=>b
def px(g:Option BE):List BE→List BE→F→F
 | [],_,r=>r
 | b::bs,known,r=>if Wz g b== .lit true||known.contains (Wz g b)||(Wz g b).sure then px g bs known r else .vc (Wz g b) (px g bs known r)
def mR(ρ:Env):Option BE→Bool
 | some c=>c.den ρ
 | none=>true
def guardOf(all:Array Oper)(fr:List (Nat×SV))(o:Oper):Option (Option BE):=
 match o.guard with
 | none=>some none
 | some (j,want)=>
  match all[j]? with
  | some oj=>match oj.dst with
   | some d=>match look fr d with
    | some (.bool b)=>some (some (if want then b else iI b))
    | some (.opt c (.bool b))=>some (some (zZ c (if want then b else iI b)))
    | some .undef=>some (some (.lit false))
    | some (.opt _ .undef)=>some (some (.lit false))
    | _=>none
   | none=>none
  | none=>none
def cT(st:St)(e:zX):St:=
 match e with
 | .none=>st
 | .new ck=>{st with hp:=st.hp++[ck],aV:={st.aV with b:=st.aV.b+1}}
 | .set i ck=>{st with hp:=st.hp.set i ck}
 | .app i ck=>{st with hp:=st.hp.set i ck,aV:={st.aV with v:=st.aV.v+1}}
 | .own ck=>{st with hp:=st.hp++[ck],aV:={st.aV with v:=st.aV.v+1}}
 | .DH ck=>{st with hp:=st.hp++[ck],aV:={st.aV with v:=st.aV.v+1}}
def kj{α:Type}(e:α)(hp:List α):List Nat→List α→List α
 | i::r,c::cs=>kj e (hp.set i c) r cs
 | i::r,[]=>kj e (hp.set i e) r []
 | [],cs=>hp++cs
def fb(hp:List Ck)(use:List Nat)(new:List Ck):List Ck:=kj .emp hp use new
def IM(T:List TI)(st:St)(t:Nat):Option St:=
 match aU T t,ur T 30 t with
 | some ti,some aD=>if aD.all (bR.sc st.aV)then some {st with hp:=st.hp++[.bK true st.aV.v t ti.size (.lit 0) aD],aV:={st.aV with v:=st.aV.v+1}}else none
 | _,_=>none
inductive xM where
 | nil
 | cut (vcs:List BE)
 | oZ
 | same
def xN(st:St)(x:SV)(md:Bool):Option (St×xM):=
 match fB st.hp x with
 | some r=>
  match gV r.p.lo r.aD with
  | some aD=>
   if r.s=bT r.aD∧(md=true→r.md=true)∧r.p.len.sc st.aV=true∧aD.all (bR.sc st.aV)=true then
    some ({st with hp:=st.hp.set r.j (.bK md st.aV.v r.t r.s r.p.len aD),aV:={st.aV with v:=st.aV.v+1}},.cut (r.vcs++dC (.lit 0) r.p.len))
   else none
  | none=>none
 | none=>none
def MR(st:St)(x:SV)(t:Nat):Option (St×xM):=
 match x with
 | .sl b i s n m=>
  match findAt st.hp b,eR i,eR n with
  | some (j,.row _ true cs),some 0,some q=>
   match rowOf cs with
   | some (ki::kl,a)=>
    if n=m∧s=1∧kl.length+1=q∧ki::kl=List.replicate q ki∧q≤140737488355328∧a.sc st.aV=true then
     some ({st with hp:=st.hp.set j (.bK true st.aV.v t 1 (.lit (q:Int)) [⟨.int ki,1,a⟩]),aV:={st.aV with v:=st.aV.v+1}},.cut [])
    else none
   | _=>none
  | _,_,_=>none
 | _=>none
def Ck.AM(b:Nat):Ck→Bool
 | .Ki b'=>b==b'
 | _=>false
def Ck.uu(b:Nat):Ck→Bool
 | .qZ b'=>b==b'
 | _=>false
def swapAt(hp:List Ck)(i j:Nat):List Ck:=
 match hp[i]?,hp[j]? with
 | some d,some c=>(hp.set i c).set j d
 | _,_=>hp
def Uo(st:St)(s:Nat):Option Nat:=
 match look st.fr s with
 | some (.ptr b _)=>(findAt st.hp b).map (·.1)
 | some (.vv v)=>(cG st.hp v).map (·.1)
 | some (.sl b _ _ _ _)=>(findAt st.hp b).map (·.1)
 | _=>none
def dy(T:List TI)(st:St)(x:rn):Option (St×xM):=
 match x with
 | .slot s t=>match look st.fr s with
  | some .bU=>(IM T st t).map fun cY=>(cY.put (some s) (.vv st.aV.v),.nil)
  | _=>none
 | .cell i j t=>match st.hp[i]? with
  | some (.row b w cs)=>match cs[j]? with
   | some .bU=>(IM T st t).map fun cY=>({cY with hp:=cY.hp.set i (.row b w (cs.set j (.vv st.aV.v)))},.nil)
   | _=>none
  | _=>none
 | .cut s md=>match look st.fr s with
  | some x=>(xN st x md).map fun y=>(y.1.put (some s) (.vv st.aV.v),y.2)
  | none=>none
 | .qw i j md=>match st.hp[i]? with
  | some (.row b w cs)=>match cs[j]? with
   | some x=>match xN st x md with
    | some (cY,wr)=>match cY.hp[i]? with
     | some (.row b' w' _)=>if b'=b∧w'=w then some ({cY with hp:=cY.hp.set i (.row b w (cs.set j (.vv st.aV.v)))},wr)else none
     | _=>none
    | none=>none
   | none=>none
  | _=>none
 | .marks=>some ({st with nt:={st.nt with ds:= .many st.aV.b::st.nt.ds},hp:=st.hp++[.qZ st.aV.b],aV:={st.aV with b:=st.aV.b+1}},.oZ)
 | .mark=>match st.nt.ds with
  | .one b:: .many c::ds=>match st.hp.findIdx? (Ck.AM b),st.hp.findIdx? (Ck.uu c)with
   | some i,some j=>some ({st with nt:={st.nt with ds:= .many st.aV.b::ds},hp:=(st.hp.set i .emp).set j (.qZ st.aV.b),aV:={st.aV with b:=st.aV.b+1}},.oZ)
   | _,_=>none
  | .many _::_=>some (st,.same)
  | _=>none
 | .own s t=>match look st.fr s with
  | some x=>(MR st x t).map fun y=>(y.1.put (some s) (.vv st.aV.v),y.2)
  | none=>none
 | .swap s i=>match Uo st s with
  | some j=>some ({st with hp:=swapAt st.hp i j},.same)
  | none=>none
def rP(T:List TI):St→List rn→Option (St×List xM)
 | st,[]=>some (st,[])
 | st,x::r=>match dy T st x with
  | some (cY,y)=>match rP T cY r with
   | some (s2,k)=>some (s2,y::k)
   | none=>none
  | none=>none
def vcF:List BE→F→F
 | [],f=>f
 | b::r,f=> .vc b (vcF r f)
def fC:List xM→F→F
 | [],f=>f
 | .nil::r,f=> .W9 (fC r f)
 | .oZ::r,f=> .Qr (fC r f)
 | .same::r,f=>fC r f
 | .cut vcs::r,f=>vcF vcs (.DG (fC r f))
def xO(look:Nat→Option SV)(o:Oper):Option (Nat×List SV):=
 match o.op with
 | .call {callee:= .value f,args,.. }=>
  match iJ look f,jm (args.toList.map (iJ look))with
  | some (.fn f jK),some az=>some (f,az++jK)
  | _,_=>none
 | _=>none
def dX(n:Nat):List SV→List (Nat×SV)
 | []=>[]
 | v::r=>(n,v)::dX (n+1) r
def qy(known:List BE)(b:BE):BE:=
 match b with
 | .lit x=> .lit x
 | b=>if b.sc {}then .lit (b.den MQ)else if known.contains b then .lit true else if known.contains (iI b)then .lit false else b
def SV.GM(c:BE):SV→SV
 | .opt c' v=>
  if c'=c then v else
  match c' with
  | .and a b=>if a=c then .opt b v else .opt (.and a b) v
  | c'=> .opt c' v
 | .bool b=>if b=c then .bool (.lit true)else .bool b
 | v=>v
def SV.q_(c:BE):SV→SV
 | .opt c' v=>
  if c'=c then .undef else
  match c' with
  | .and a b=>if a=c then .undef else .opt (.and a b) v
  | c'=> .opt c' v
 | .bool b=>if b=c then .bool (.lit false)else .bool b
 | v=>v
def St.GM(c:BE)(st:St):St:={st with fr:=st.fr.map fun x=>(x.1,x.2.GM c),known:=c::st.known}
def St.q_(c:BE)(st:St):St:={st with fr:=st.fr.map fun x=>(x.1,x.2.q_ c),known:=iI c::st.known}
def under(c:BE)(lk:Nat→Option SV)(s:Nat):Option SV:=
 match lk s with
 | some (.opt c' v)=>
  if c'=c then some v else
  match c' with
  | .and a b=>if a=c then some (.opt b v)else some (.opt (.and a b) v)
  | c'=>some (.opt c' v)
 | x=>x
def GN(fr:List (Nat×SV))(known:List BE)(x:Operand):Option BE:=
 match iJ (look fr) x with
 | some (.bool b)=>some (qy known b)
 | _=>none
def qz(all:Array Oper)(fr:List (Nat×SV))(known:List BE)(o:Oper):Option (Option BE):=
 match guardOf all fr o with
 | some (some b)=>match qy known b with
  | .lit true=>some none
  | b=>some (some b)
 | x=>x
def SV.fix(known:List BE):SV→SV
 | .opt c v=>match qy known c with
  | .lit true=>v
  | .lit false=> .undef
  | _=> .opt c v
 | .bool b=> .bool (qy known b)
 | v=>v
def SV.Up(c:BE)(known:List BE):SV→SV
 | .bool b=>if known.contains (iI (zZ c b))then .bool (.lit false)else .bool b
 | .opt b v=>if known.contains (iI (zZ c b))then .undef else .opt b v
 | v=>v
def AN(g:Option BE)(known:List BE)(fr:List (Nat×SV))(s:Nat):Option SV:=
 match g with
 | some c=>(under c (look fr) s).map fun v=>(v.fix known).Up c known
 | none=>(look fr s).map (SV.fix known)
def Op.quiet:Op→Bool
 | .move _ | .assign _ | .pick .. | .build .. | .load .. | .nilCheck _ | .binOp .. | .unOp .. | .sliceToArrayPointer .. | .fieldAddr .. | .field .. | .indexAddr .. | .index .. | .extract .. | .makeFunc .. | .makeInterface .. | .slice .. | .lookup .. =>true
 | .convert a b _=> !(a==b)
 | .call {callee:= .builtin .len,.. }=>true
 | .call {callee:= .builtin .max,.. }=>true
 | .call {callee:= .builtin .min,.. }=>true
 | _=>false
def lK(all:Array Oper)(done:Nat)(i:Nat):Bool:=
 match all[i]? with
 | some o=>o.after.toList.all fun e=> !ajK .any e||done.testBit e.on
 | none=>false
def MS(all:Array Oper):List Nat→List Nat→List Nat
 | [],acc=>acc
 | i::r,acc=>
  match all[i]? with
  | some o=>MS all r (acc++[o.after.toList.foldl (fun s e=>if ajK .any e&&aje e.on i then s|||(1 <<< e.on)|||acc.getD e.on 0 else s) 0])
  | none=>acc
def slotsOf(all:Array Oper)(o:Oper):List Nat:=
 o.op.operands.toList.filterMap (fun | .tmp t=>some t | _=>none)++
  (match o.guard with | some (j,_)=>(match all[j]? with | some oj=>oj.dst.toList | none=>[]) | none=>[])
def ko(all:Array Oper)(pm:List Nat):Bool:=
 (ajw all.size).all fun i=>
  match all[i]? with
  | some oi=>
   match oi.dst with
   | some d=>
    (ajw all.size).all fun j=>
     match all[j]? with
     | some oj=>i==j|| !((slotsOf all oj).contains d||oj.dst==some d)||(pm.getD j 0).testBit i||(pm.getD i 0).testBit j
     | none=>true
   | none=>true
  | none=>true
def xP(all:Array Oper)(pm:List Nat):Bool:=
 (ajw all.size).all fun p=>
  match all[p]? with
  | some o=>
   (o.after.toList.all fun e=> !ajK .any e||aje e.on p)&&
   ((ajw all.size).all fun q=> !(pm.getD p 0).testBit q||o.after.toList.any fun e=>ajK .any e&&(q==e.on||(pm.getD e.on 0).testBit q))
  | none=>true
def BW(all:Array Oper)(i:Nat):Bool:=
 match all[i]? with
 | some o=>Op.quiet o.op
 | none=>false
def restrict(fr:List (Nat×SV))(aO:List Nat):List (Nat×SV):=fr.filter fun x=>aO.contains x.1
def kept(c:cz)(hp lz:List Ck)(rd:List Nat):Bool:=
 rd.all fun j=>
  match hp[j]?,lz[j]? with
  | some a,some b=>(match w6 a b with | some l=>l.all (fA.trivial c) | none=>false)
  | none,_=>true
  | _,_=>false
def fv(st:St)(fn:Nat)(nt:NT)(fr:List (Nat×SV)):St:={st with fn:=fn,nt:=nt,fr:=fr}
def py(st:St)(d:Option Nat):Bool:=
 match d with
 | some d=>aje d st.nt.n
 | none=>true
def oa(C:Ctx)(g:Option BE)(st:St)(o:Oper):Option hU:=
 match dt C.T (AN g st.known st.fr) st.hp st.aV.b st.aV.v o with
 | some res=>if res.sc st.aV then some res else none
 | none=>none
def DJ(C:Ctx)(g:Option BE)(st:St)(o:Oper):Option hU:=
 match g with
 | some (.lit false)=>some {val:= .undef}
 | g=>oa C g st o
def gsc(c:cz):Option BE→Bool
 | some b=>b.sc c
 | none=>true
def Kj:Option BE→SV→SV
 | some c,v=> .opt c v
 | none,v=>v
def BX:Option BE→List BE→List BE→List BE
 | some _,_,k=>k
 | none,vcs,k=>more vcs k
def leave:List Ck→List MK→Option (List Ck)
 | hp,[]=>some hp
 | hp,.one d::ds=>
  match hp.findIdx? (Ck.AM d)with
  | some i=>leave (hp.set i .emp) ds
  | none=>none
 | hp,.many d::ds=>
  match hp.findIdx? (Ck.uu d)with
  | some i=>leave (hp.set i .emp) ds
  | none=>none
def mA(st:St):Option St:=(leave st.hp st.nt.ds).map fun hp=>{st with hp:=hp}
def qA(l:Nat):List KI→Option (Nat×Nat×NT×List (Nat×SV)×Array Tmp×Code×Code)
 | []=>none
 | .rf l' r fn nt fr ps x y _::k=>if l'==l then some (r,fn,nt,fr,ps,x,y)else qA l k
 | _::k=>qA l k
def Ck.isRec(l:Nat):Ck→Bool
 | .kP l' _ _ _=>l==l'
 | _=>false
def recAt(hp:List Ck)(l:Nat):Option (Nat×Nat×RS×Jump):=
 match hp.findIdx? (Ck.isRec l)with
 | some i=>
  match hp[i]? with
  | some (.kP _ r s j)=>some (i,r,s,j)
  | _=>none
 | none=>none
def kR(st:St):List (Nat×SV)→Option St
 | []=>some st
 | (d,v)::r=>if py st (some d)&&v.sc st.aV then kR (st.put (some d) v) r else none
def MT(look:Nat→Option SV)(o:Oper):Option (Nat×List SV):=
 match o.op with
 | .call {callee:= .value f,args,.. }=>
  match iJ look f,jm (args.toList.map (iJ look))with
  | some (.Kf l),some az=>some (l,az)
  | _,_=>none
 | _=>none
def run(C:Ctx):Nat→List KI→St→F
 | 0,_,_=> .fail "fuel"
 | _+1,[],_=> .fail "end"
 | n+1,.oZ _::k,st=>run C n k st
 | n+1,.gh g::k,st=>
  match g st with
  | none=>run C n k st
  | some s=>
   match s.split with
   | some b=>if b.sc st.aV then .fork b (run C n (.gh g::k) {st with known:=b::st.known}) (run C n (.gh g::k) {st with known:=iI b::st.known})else .fail "scope"
   | none=>
   match s.pick with
   | some idx=>if idx.all (fun i=>aje i st.hp.length)&&decide idx.Nodup then run C n k {st with hp:=idx.map fun i=>st.hp.getD i .emp}else .fail "pick"
   | none=>
   let mi:=st.aV.add s.inc
   match mz s.aO st.fr with
   | some eqs=>
    if kZ mi s.aO&&s.new.all (Ck.sc mi)&&s.use.all (fun i=>aje i st.hp.length)&&decide s.use.Nodup then
     .ghost (s.use.map fun i=>st.hp.getD i .emp) s.inc eqs s.new (run C n k {st with fr:=s.aO++st.fr.filter (fun x=> !(s.aO.any fun y=>y.1==x.1)),hp:=fb st.hp s.use s.new,aV:=mi})
    else .fail "scope"
   | none=> .fail "ghost"
 | n+1,.again body::k,st=>run C n (.code body:: .again body::k) st
 | _+1,.loop up nt c0 inc fr hp bk::_,st=>
  match rP C.T st bk with
  | none=> .fail "nil back"
  | some (st,nn)=>
  fC nn <|
  match mz fr st.fr,my hp st.hp,k9 nt.ds st.nt.ds with
  | some a,some b,some d=>if st.nt.n != nt.n then .fail "frame" else .back up c0 inc ((a++b++d).filter fun q=> !q.trivial c0)
  | _,_,none=> .fail "marks"
  | _,_,_=> .fail "back"
 | _+1,.jn _ up nt c0 inc fr hp pre::_,st=>
  match rP C.T st pre with
  | none=> .fail "nil join"
  | some (st,nn)=>
  fC nn <|
  match mz fr st.fr,my hp st.hp,k9 nt.ds st.nt.ds with
  | some a,some b,some d=>if st.nt.n != nt.n then .fail "frame" else .meet up c0 inc ((a++b++d).filter fun q=> !q.trivial c0)
  | _,_,none=> .fail "join marks"
  | none,_,_=> .fail "join slots"
  | _,_,_=> .fail "join"
 | n+1,.call fn nt fr d f::k,st=>
  match mA st with
  | some st=>
   match xL C.T st f with
   | some v=>if py (fv st fn nt fr) d&&v.sc st.aV then run C n k ((fv st fn nt fr).put d v)else .fail "destination"
   | none=> .fail "results"
  | none=> .fail "marks"
 | _+1,.top f::_,st=>
  match mA st with
  | some st=>
   match xL C.T st f with
   | some v=> .ret v st.hp
   | none=> .fail "results"
  | none=> .fail "marks"
 | n+1,.code c::k,st=>
  match c with
  | .skip=>run C n k st
  | .label _=>run C n k st
  | .seq a b=>run C n (.code a:: .code b::k) st
  | .cond x t e=>
   match GN st.fr st.known x with
   | some (.lit true)=>run C n (.code t::k) st
   | some (.lit false)=>run C n (.code e::k) st
   | some b=>if b.sc st.aV then .fork b (run C n (.code t::k) {st with known:=b::st.known}) (run C n (.code e::k) {st with known:=iI b::st.known})else .fail "scope"
   | none=> .fail "cond"
  | .block id b=>
   match C.Te st.fn id with
   | none=>run C n (.code b:: .oZ id::k) st
   | some ja=>
    let ws:=writes b
    let aO:=ja.aO st.aV
    let Gu:=aO++st.fr.filter fun x=> !(ws.contains x.1)&& !(aO.any fun y=>y.1==x.1)
    let lz:=ja.hp st.aV st.hp
    let mi:=st.aV.add ja.inc
    let w9:NT:={st.nt with ds:=ja.ds st.aV st.nt.ds}
    if kZ mi aO&&lz.all (Ck.sc mi)&&aO.all (fun x=>aje x.1 st.nt.n)&&w9.ds.all (MK.sc mi)then
     .join (nl k) ja.inc (run C n (.code b:: .jn (some id) (nl k) w9 st.aV ja.inc Gu lz ja.pre::k) st) (run C n k {st with fr:=Gu,hp:=lz,aV:=mi,known:=[],nt:=w9})
    else .fail "scope"
  | .loop body=>
   match k with
   | .oZ id::_=>
    match C.loops st.fn id with
    | none=>run C n (.code body:: .again body::k) st
    | some la=>
     match rP C.T st la.pre with
     | none=> .fail "nil" id
     | some (st,nn)=>
     fC nn <|
     let ws:=writes body
     let aO:=la.aO st.aV
     let Gu:=aO++st.fr.filter fun x=> !(ws.contains x.1)&& !(aO.any fun y=>y.1==x.1)
     let lz:=la.hp st.aV st.hp
     let mi:=st.aV.add la.inc
     let w9:NT:={st.nt with ds:=la.ds st.aV st.nt.ds}
     match mz aO st.fr,my lz st.hp,k9 w9.ds st.nt.ds with
     | some a,some b,some d=>
      if kZ mi aO&&lz.all (Ck.sc mi)&&aO.all (fun x=>aje x.1 st.nt.n)&&w9.ds.all (MK.sc mi)then
       .loop (nl k) la.inc ((a++b++d).filter fun q=> !q.trivial st.aV)
        (run C n (.code body:: .loop (nl k) w9 st.aV la.inc Gu lz la.back::k) {st with fr:=Gu,hp:=lz,aV:=mi,known:=[],nt:=w9})
      else .fail "scope"
     | _,_,_=> .fail "loop entry" id
   | _=>run C n (.code body:: .again body::k) st
  | .exit id=>match cX id k with
   | some k'=>run C n k' st
   | none=> .fail "exit" id
  | .ret=>match f_ k with
   | some k'=>run C n k' st
   | none=> .fail "ret"
  | .region id ops false=>
   match C.kQ st.fn id with
   | none=>run C n (.ops ops ops.toList::k) st
   | some g=>run C n (.ops ops ops.toList:: .gh g::k) st
  | .region id ops true=>
   let pm:=MS ops (ajw ops.size) []
   if ko ops pm&&xP ops pm then
    match C.Te st.fn (id+100000)with
    | some ja=>
     let aO:=ja.aO st.aV
     let Gu:=aO++st.fr.filter fun x=> !((writes (.region id ops true)).contains x.1)&& !(aO.any fun y=>y.1==x.1)
     let lz:=ja.hp st.aV st.hp
     let mi:=st.aV.add ja.inc
     let w9:NT:={st.nt with ds:=ja.ds st.aV st.nt.ds}
     if kZ mi aO&&lz.all (Ck.sc mi)&&aO.all (fun x=>aje x.1 st.nt.n)&&w9.ds.all (MK.sc mi)then
      .join (nl k) ja.inc (run C n (.rN ops pm (ajw ops.size) 0 []:: .gh ja.gh:: .jn none (nl k) w9 st.aV ja.inc Gu lz ja.pre::k) st) (run C n k {st with fr:=Gu,hp:=lz,aV:=mi,known:=[],nt:=w9})
     else .fail "scope"
    | none=>
    match C.kQ st.fn id with
    | none=>run C n (.rN ops pm (ajw ops.size) 0 []::k) st
    | some g=>run C n (.rN ops pm (ajw ops.size) 0 []:: .gh g::k) st
   else .fail "order"
  | .rangeFunc g ps x y=>
   match iJ (look st.fr) g with
   | some (.fn f jK)=>
    match C.FT.find? fun x=>x.1==f with
    | none=> .fail "call" f
    | some (_,fd)=>
     match fd.body with
     | none=> .fail "no body" f
     | some c=>
      if SV.o6 st.aV jK then
       match xK k with
       | none=>
        .BT true (run C n (.code c:: .rf (st.aV.b+1) st.aV.r st.fn ⟨st.nt.n,.one st.aV.b::st.nt.ds⟩ st.fr ps x y fd::k)
         (fv {st with hp:=st.hp++[.Ki st.aV.b]++[.kP (st.aV.b+1) st.aV.r .ready .none],aV:={st.aV with b:=st.aV.b+2,r:=st.aV.r+1}} f ⟨fd.ntmps,[]⟩ (dX 0 (.Kf (st.aV.b+1)::jK))))
       | some l0=>
        match recAt st.hp l0 with
        | some _=>
         .BT false (run C n (.code c:: .rf st.aV.b st.aV.r st.fn st.nt st.fr ps x y fd::k)
          (fv {st with hp:=st.hp++[.kP st.aV.b st.aV.r .ready .none],aV:={st.aV with b:=st.aV.b+1,r:=st.aV.r+1}} f ⟨fd.ntmps,[]⟩ (dX 0 (.Kf st.aV.b::jK))))
        | none=> .fail "round"
      else .fail "scope"
   | _=> .fail "range over what"
  | _=> .fail "code"
 | n+1,.ops _ []::k,st=>run C n k st
 | n+1,.ops all (o::rest)::k,st=>
  if py st o.dst then
  match qz all st.fr st.known o with
  | none=> .fail "guard" (st.fn*1000+o.dst.getD 0)
  | some (some (.lit false))=>run C n (.ops all rest::k) (st.put o.dst .undef)
  | some (some c)=>
   if c.sc st.aV then
    match oa C (some c) st o with
    | some res=>
     match res.hZ with
     | .none=>px (some c) res.vcs st.known (run C n (.ops all rest::k) (st.put o.dst (.opt c res.val)))
     | _=> .fork c (run C n (.ops all ({o with guard:=none}::rest)::k) (st.GM c)) (run C n (.ops all rest::k) ((st.q_ c).put o.dst .undef))
    | none=> .fork c (run C n (.ops all ({o with guard:=none}::rest)::k) (st.GM c)) (run C n (.ops all rest::k) ((st.q_ c).put o.dst .undef))
   else .fail "scope"
  | some none=>
   match oa C none st o with
   | some res=>
    let nx:=run C n (.ops all rest::k) (({cT st res.hZ with known:=more res.vcs st.known}).put o.dst res.val)
    px none res.vcs st.known (match res.hZ with | .new _=> .Qr nx | .app .. => .DG nx | .own .. => .DG nx | .DH .. => .DG nx | _=>nx)
   | none=>
    match xO (look st.fr) o with
    | some (f,az)=>
     match C.FT.find? fun x=>x.1==f with
     | none=> .fail "call" f
     | some (_,fd)=>
      match fd.body with
      | none=>
       match Tf C st.fn (o.dst.getD 0) f with
       | some ca=>
        if(qv ca az st.hp st.aV).sc (st.aV.add ca.inc)&&(ca.new st.aV ((ca.use az st.hp).map fun i=>st.hp.getD i .emp)).all (Ck.sc (st.aV.add ca.inc))&&(ca.use az st.hp).all (fun i=>aje i st.hp.length)&&decide (ca.use az st.hp).Nodup then
         .ext f az ((ca.use az st.hp).map fun i=>st.hp.getD i .emp) ca.inc (qv ca az st.hp st.aV) (ca.new st.aV ((ca.use az st.hp).map fun i=>st.hp.getD i .emp))
          (run C n (.ops all rest::k) ({st with hp:=fb st.hp (ca.use az st.hp) (ca.new st.aV ((ca.use az st.hp).map fun i=>st.hp.getD i .emp)),aV:=st.aV.add ca.inc}.put o.dst (qv ca az st.hp st.aV)))
        else .fail "scope"
       | none=> .fail "no body" f
      | some c=>
       match BU C f az st.hp with
       | some r=>
        if r.val.sc st.aV&&r.new.all (Ck.sc st.aV)&&r.use.all (fun i=>aje i st.hp.length)&&decide r.use.Nodup then
         px none r.vcs st.known (run C n (.ops all rest::k) ({st with hp:=fb st.hp r.use r.new}.put o.dst r.val))
        else .fail "scope"
       | none=>
       match Tf C st.fn (o.dst.getD 0) f with
       | some ca=>
        let use:=ca.use az st.hp
        let new:=ca.new st.aV (use.map fun i=>st.hp.getD i .emp)
        let v:=qv ca az st.hp st.aV
        let mi:=st.aV.add ca.inc
        if v.sc mi&&new.all (Ck.sc mi)&&use.all (fun i=>aje i st.hp.length)&&decide use.Nodup then
         .call f az (use.map fun i=>st.hp.getD i .emp) ca.inc v new (run C n (.ops all rest::k) ({st with hp:=fb st.hp use new,aV:=mi}.put o.dst v))
        else .fail "scope"
       | none=>
        if SV.o6 st.aV az then run C n (.code c:: .call st.fn st.nt st.fr o.dst fd:: .ops all rest::k) (fv st f ⟨fd.ntmps,[]⟩ (dX 0 az))else .fail "scope"
    | none=>
    match MT (look st.fr) o with
    | some (l,az)=>
     match qA l k,recAt st.hp l with
     | some (r,fn,nt,fr,ps,x,y),some (_,r',_,_)=>
      if r=r'&&az.length==ps.size then
       match kR (fv st fn ⟨nt.n,[]⟩ fr) (ps.toList.zip az)with
       | some k_=>run C n (.code x:: .begin l:: .code y:: .round l st.fn st.nt st.fr o.dst:: .ops all rest::k) k_
       | none=> .fail "slot"
      else .fail "yield"
     | _,_=> .fail "yield"
    | none=> .fail "op" (st.fn*1000+o.dst.getD 0)
  else .fail "slot"
 | n+1,.rf l _ fn nt fr _ _ _ fd::k,st=>
  match mA st with
  | some st=>
   match xL C.T st fd,recAt st.hp l with
   | some _,some (i,r,s,j)=>
    if s= .busy then .fail "busy" else
    match j with
    | .none=>run C n k (fv {st with hp:=st.hp.set i (.kP l r .exhausted j)} fn nt fr)
    | .ret=>run C n (.code .ret::k) (fv {st with hp:=st.hp.set i (.kP l r .exhausted j)} fn nt fr)
    | .exit id=>run C n (.code (.exit id)::k) (fv {st with hp:=st.hp.set i (.kP l r .exhausted j)} fn nt fr)
   | _,_=> .fail "results"
  | none=> .fail "marks"
 | n+1,.begin l::k,st=>
  match recAt st.hp l with
  | some (i,r,.ready,j)=>run C n k {st with hp:=st.hp.set i (.kP l r .busy j)}
  | _=> .fail "not ready"
 | n+1,.round l fn nt fr d::k,st=>run C n (.lJ l .none fn nt fr d::k) st
 | n+1,.lJ l j fn nt fr d::k,st=>
  match recAt st.hp l with
  | some (i,r,_,_)=>
   if py (fv st fn nt fr) d then
    run C n k ((fv {st with hp:=st.hp.set i (.kP l r (if j= .none then .ready else .done) j)} fn nt fr).put d (.bool (.lit (decide (j= .none)))))
   else .fail "slot"
  | none=> .fail "record"
 | n+1,.rN all pm rest done log::k,st=>
  match rest with
  | []=>run C n k st
  | _=>
   match rest.find? fun i=>BW all i&&lK all done i with
   | some i=>
    match all[i]? with
    | some o=>
     if py st o.dst then
      match qz all (restrict st.fr (slotsOf all o)) st.known o with
      | none=> .fail "guard" i
      | some g=>
       if gsc st.aV g then
        match DJ C g {st with fr:=restrict st.fr (slotsOf all o)} o with
        | some res=>
         match res.hZ with
         | .none=>
          px g res.vcs st.known (run C n (.rN all pm (rest.filter fun j=>j != i) (done|||(1 <<< i)) ((i,res.rd)::log)::k)
           (({st with known:=BX g res.vcs st.known}).put o.dst (Kj g res.val)))
         | _=> .fail "effect" i
        | none=> .fail "quiet" i
       else .fail "scope"
     else .fail "slot"
    | none=> .fail "no op"
   | none=>
    MO ((rest.filter (lK all done)).map fun e=>
     match all[e]? with
     | some o=>
      if py st o.dst then run C n (.ops all [o]:: .MP all pm e rest done log st.fn st.nt st.fr st.hp st.aV::k) {st with fr:=restrict st.fr (slotsOf all o)}else .fail "slot"
     | none=> .fail "no op")
 | n+1,.MP all pm e rest done log fn nt fr hp aV::k,st=>
  match all[e]? with
  | some o=>
   if(log.all fun x=>(pm.getD e 0).testBit x.1||kept aV hp st.hp x.2)&&st.nt==nt then
    match (match o.dst with | some d=>look st.fr d | none=>some .undef)with
    | some v=>run C n (.rN all pm (rest.filter fun j=>j != e) (done|||(1 <<< e)) log::k) ((fv st fn nt fr).put o.dst v)
    | none=> .fail "result"
   else .fail "read beside"
  | none=> .fail "no op"
def ig(C:Ctx)(f:Nat)(args:List SV)(hp:List Ck)(aV:cz)(fd:Func):F:=
 match fd.body with
 | some c=>if SV.o6 aV args&&hp.all (Ck.sc aV)then run C 100000 [.code c,.top fd] {fn:=f,fr:=dX 0 args,hp:=hp,aV:=aV,nt:=⟨fd.ntmps,[]⟩}else .fail "scope"
 | none=> .fail "no body"
def ax(P:Program)(f:Nat)(args:List Value)(pre:List HP)(post:Value→List HP→Prop):Prop:=
 ∀(w:World) (Fs:List HP),bz (pre++Fs) w→
  Calls P f args.toArray w fun e w'=> ∃v hs,e= .returned v∧post v hs∧bz (hs++Fs) w'∧fZ w w'
def BQ(P:Program)(f:Nat)(args:List Value)(pre:List HP)(post:Value→List HP→Prop):Prop:=
 ∀(w:World) (Fs:List HP),bz (pre++Fs) w→
  ∃v hs w',(callFunc f args.toArray).run P w= .ok (.value v) w'∧post v hs∧bz (hs++Fs) w'∧fZ w w'
structure Ext where
 b:List Nat
 v:List V1
 i:List Int
 a:List (Nat→Int)
 bo:List Bool
 p:List HP
 r:List Loop
def xQ{α:Type}:Nat→(List α→Prop)→Prop
 | 0,f=>f []
 | n+1,f=> ∀x,xQ n fun xs=>f (x::xs)
def MU{α:Type}:Nat→(List α→Prop)→Prop
 | 0,f=>f []
 | n+1,f=> ∃x,MU n fun xs=>f (x::xs)
def xR(c:cz)(f:Ext→Prop):Prop:=
 xQ c.b fun b=>xQ c.v fun v=>xQ c.i fun i=>xQ c.a fun a=>xQ c.bo fun bo=>xQ c.p fun p=>xQ c.r fun r=>f ⟨b,v,i,a,bo,p,r⟩
def vo(c:cz)(f:Ext→Prop):Prop:=
 MU c.b fun b=>MU c.v fun v=>MU c.i fun i=>MU c.a fun a=>MU c.bo fun bo=>MU c.p fun p=>MU c.r fun r=>f ⟨b,v,i,a,bo,p,r⟩
def Env.ext(ρ:Env)(x:Ext):Env:=
 {ρ with bv:=ρ.bv++x.b,vv:=ρ.vv++x.v,iv:=ρ.iv++x.i,av:=ρ.av++x.a,bo:=ρ.bo++x.bo,pv:=ρ.pv++x.p,lr:=ρ.lr++x.r}
def Env.take(ρ:Env)(c:cz):Env:=
 {ρ with bv:=ρ.bv.take c.b,vv:=ρ.vv.take c.v,iv:=ρ.iv.take c.i,av:=ρ.av.take c.a,bo:=ρ.bo.take c.bo,pv:=ρ.pv.take c.p,lr:=ρ.lr.take c.r}
def Env.mj(ρ:Env)(b:Nat):Env:={ρ with bv:=ρ.bv++[b]}
def Env.gf(ρ:Env)(v:V1):Env:={ρ with vv:=ρ.vv++[v]}
def fA.holds(ρ bF:Env):fA→Prop
 | .e x y=>x.den ρ 0=y.den bF 0
 | .a n x y=> ∀j,j<(n.den ρ 0).toNat→x.den ρ j=y.den bF j
 | .b x y=>x.den ρ=y.den bF
 | .af x y=>x.den ρ=y.den bF
 | .v i j=>ρ.vv.getD i V1.nil=bF.vv.getD j V1.nil
 | .p i j=>ρ.pv.getD i HP.emp=bF.pv.getD j HP.emp
 | .bl i j=>ρ.bv.getD i 0=bF.bv.getD j 0
 | .rc i j=>ρ.lr.getD i h_=bF.lr.getD j h_
def Tg(ρ bF:Env):List fA→Prop→Prop
 | [],q=>q
 | x::r,q=>x.holds ρ bF∧Tg ρ bF r q
structure LC where
 I:Ext→Prop
 μ:Ext→Nat
 cur:Ext
def LC.none:LC:=⟨fun _=>False,fun _=>0,⟨[],[],[],[],[],[],[]⟩⟩
def uv(L:Nat→LC)(i:Nat)(l:LC):Nat→LC:=fun j=>if j=i then l else L j
def aw(b r:Prop):Prop:=b∧(b→r)
def aJ(c t e:Prop):Prop:=(c→t)∧(¬c→e)
def VC(P:Program)(ao:Value→List HP→Prop):F→Env→(Nat→LC)→Prop
 | .fail _ _,_,_=>False
 | .vc b r,ρ,L=>aw (b.prop ρ) (VC P ao r ρ L)
 | .fork c t e,ρ,L=>aJ (c.prop ρ) (VC P ao t ρ L) (VC P ao e ρ L)
 | .ret v hp,ρ,_=>ao (v.val ρ) (hp.map (Ck.den ρ))
 | .Qr r,ρ,L=> ∀b,VC P ao r (ρ.mj b) L
 | .DG r,ρ,L=> ∀v,VC P ao r (ρ.gf v) L
 | .BT true r,ρ,L=> ∀d l c,VC P ao r (ρ.ext ⟨[d,l],[],[],[],[],[],[c]⟩) L
 | .BT false r,ρ,L=> ∀l c,VC P ao r (ρ.ext ⟨[l],[],[],[],[],[],[c]⟩) L
 | .W9 r,ρ,L=>VC P ao r (ρ.gf ⟨.slice none 0 0,rfl⟩) L
 | .call f args use inc v new r,ρ,L=>
  ∃post,ax P f (SV.bH ρ args) (use.map (Ck.den ρ)) post∧
   ∀x hs,post x hs→vo inc fun e=>x=v.val (ρ.ext e)∧hs=new.map (Ck.den (ρ.ext e))∧VC P ao r (ρ.ext e) L
 | .ext f args use inc v new r,ρ,L=>
  ∃post,BQ P f (SV.bH ρ args) (use.map (Ck.den ρ)) post∧
   ∀x hs,post x hs→vo inc fun e=>x=v.val (ρ.ext e)∧hs=new.map (Ck.den (ρ.ext e))∧VC P ao r (ρ.ext e) L
 | .loop up inc eqs body,ρ,L=>
  ∃(I:Ext→Prop) (μ:Ext→Nat),(vo inc fun e=>Tg (ρ.ext e) ρ eqs (I e))∧
   xR inc fun e=>I e→VC P ao body (ρ.ext e) (uv L up ⟨I,μ,e⟩)
 | .back up c0 inc eqs,ρ,L=>
  vo inc fun e=>Tg ((ρ.take c0).ext e) ρ eqs ((L up).I e∧(L up).μ e<(L up).μ (L up).cur)
 | .join up inc body r,ρ,L=>
  ∃I:Ext→Prop,VC P ao body ρ (uv L up ⟨I,fun _=>0,⟨[],[],[],[],[],[],[]⟩⟩)∧xR inc fun e=>I e→VC P ao r (ρ.ext e) L
 | .meet up c0 inc eqs,ρ,L=>
  vo inc fun e=>Tg ((ρ.take c0).ext e) ρ eqs ((L up).I e)
 | .both a b,ρ,L=>VC P ao a ρ L∧VC P ao b ρ L
 | .ghost use inc eqs new r,ρ,L=>
  ∃I:Ext→Prop,(∀w Fs,bz (use.map (Ck.den ρ)++Fs) w→vo inc fun e=>Tg (ρ.ext e) ρ eqs (bz (new.map (Ck.den (ρ.ext e))++Fs) w∧I e))∧
   xR inc fun e=>I e→VC P ao r (ρ.ext e) L
def au(f:Nat→Int)(i:Nat)(v:Int):Nat→Int:=fun j=>if j=i then v else f j
def jL(l:List Int):Nat→Int:=fun j=>l.getD j 0
def aI(f:Nat→Int)(o:Nat):Nat→Int:=fun j=>f (o+j)
def ay(f:Nat→Int)(o n:Nat)(g:Nat→Int):Nat→Int:=fun j=>if o≤j∧j<o+n then g (j - o)else f j
end Go.RX
