/- Executor. -/
import Derived.Test.YtmgbbbmdbpbeeaaGreatRxC
open Go.Region renaming binds → afJ
open Nat renaming blt → afl
namespace Go.RX
def cP.add(a b:cP):cP:=⟨a.b+b.b,a.v+b.v,a.i+b.i,a.a+b.a,a.bo+b.bo,a.p+b.p,a.r+b.r⟩
inductive fD where
 | e (a b:E)
 | a (n:E) (a b:E)
 | af (a b:E)
 | b (a b:BE)
 | v (i j:Nat)
 | p (i j:Nat)
 | bl (i j:Nat)
 | rc (i j:Nat)
 deriving Repr
inductive F where
 | fail (s:String) (slot:Nat:=0)
 | vc (b:BE) (r:F)
 | fork (c:BE) (t e:F)
 | ret (v:SV) (hp:List Ck)
 | PL (r:F)
 | Dz (r:F)
 | Vd (r:F)
 | Bg (outer:Bool) (r:F)
 | call (f:Nat) (args:List SV) (use:List Ck) (inc:cP) (val:SV) (new:List Ck) (r:F)
 | ext (f:Nat) (args:List SV) (use:List Ck) (inc:cP) (val:SV) (new:List Ck) (r:F)
 | loop (up:Nat) (inc:cP) (eqs:List fD) (body:F)
 | back (up:Nat) (c0:cP) (inc:cP) (eqs:List fD)
 | join (up:Nat) (inc:cP) (body r:F)
 | meet (up:Nat) (c0:cP) (inc:cP) (eqs:List fD)
 | ghost (use:List Ck) (inc:cP) (eqs:List fD) (new:List Ck) (r:F)
 | both (a b:F)
 deriving Inhabited
def MC:List F→F
 | []=> .fail "none"
 | [x]=>x
 | x::y::r=> .both x (MC (y::r))
def E.sc(c:cP):E→Bool
 | .lit _=>true
 | .var i=>afl i c.i
 | .aL i=>afl i c.a
 | .OL a i=>a.sc c&&i.sc c
 | .bin _ _ a b=>a.sc c&&b.sc c
 | .wrap _ a=>a.sc c
 | .r9 a i v=>a.sc c&&i.sc c&&v.sc c
 | .shift a o=>a.sc c&&o.sc c
 | .tw a o n b=>a.sc c&&o.sc c&&n.sc c&&b.sc c
 | .kc _ a=>a.sc c
 | .mR b=>afl b c.b
 | .qt _=>true
 | .PI a i=>a.sc c&&i.sc c
 | .o4 a i s=>a.sc c&&i.sc c&&s.sc c
 | .RF s=>s.sc c
def BE.sc(c:cP):BE→Bool
 | .lit _=>true
 | .var i=>afl i c.bo
 | .eq a b=>a.sc c&&b.sc c
 | .lt a b=>a.sc c&&b.sc c
 | .le a b=>a.sc c&&b.sc c
 | .nz a=>a.sc c
 | .RG _ a b=>a.sc c&&b.sc c
 | .not a=>a.sc c
 | .and a b=>a.sc c&&b.sc c
 | .or a b=>a.sc c&&b.sc c
 | .ite x t e=>x.sc c&&t.sc c&&e.sc c
 | .seq a b=>a.sc c&&b.sc c
def Cut.sc(c:cP)(k:Cut):Bool:=k.lo.sc c&&k.hi.sc c&&(match k.mx with | some m=>m.sc c | none=>true)
mutual
def SV.sc(c:cP):SV→Bool
 | .int _ e=>e.sc c
 | .bool b=>b.sc c
 | .ptr b _=>afl b c.b
 | .oJ b i _ _=>afl b c.b&&i.sc c
 | .pv v i _ _=>afl v c.v&&i.sc c
 | .sl b i _ n m=>afl b c.b&&i.sc c&&n.sc c&&m.sc c
 | .vv i=>afl i c.v
 | .fn _ caps=>SV.oK c caps
 | .agg cs=>SV.oK c cs
 | .cE _ _ a=>a.sc c
 | .rR vs=>SV.oK c vs
 | .opt b v=>b.sc c&&v.sc c
 | .Dw _ i=>i.sc c
 | .Jz l=>afl l c.b
 | .mp b=>afl b c.b
 | .jP v cs _=>afl v c.v&&cs.all (Cut.sc c)
 | .nH e=>e.sc c
 | .K9 e=>e.sc c
 | .kg e=>e.sc c
 | .FZ b v=>b.sc c&&afl v c.v
 | .L6 _ _ e=>e.sc c
 | _=>true
def SV.oK(c:cP):List SV→Bool
 | []=>true
 | v::r=>v.sc c&&SV.oK c r
end
def CK.sc(c:cP):CK→Bool
 | .Ba l=>l.all fun n=>afl n c.v
 | _=>true
def bV.sc(c:cP)(k:bV):Bool:=k.a.sc c&&k.ck.sc c
def Ck.sc(c:cP):Ck→Bool
 | .emp=>true
 | .row b _ cs=>afl b c.b&&SV.oK c cs
 | .bC _ v _ _ n aF=>afl v c.v&&n.sc c&&aF.all (bV.sc c)
 | .abs i=>afl i c.p
 | .kr l r _ _=>afl l c.b&&afl r c.r
 | .J1 b=>afl b c.b
 | .qy b=>afl b c.b
 | .map b _ _ _ zero has aF=>afl b c.b&&SV.oK c zero&&has.sc c&&aF.all (bV.sc c)
 | .sq b _ _ _ zero es=>afl b c.b&&SV.oK c zero&&es.all fun e=>SV.oK c e.2
 | .HR b _ _ n a=>afl b c.b&&n.sc c&&a.sc c
 | .RQ b _ _=>afl b c.b
def kH(c:cP)(fr:List (Nat×SV)):Bool:=fr.all fun x=>x.2.sc c
def zq.sc(c:cP):zq→Bool
 | .none=>true
 | .new (.row _ _ cs)=>SV.oK c cs
 | .new (.map _ _ _ _ zero has aF)=>SV.oK c zero&&has.sc c&&aF.all (bV.sc c)
 | .new (.sq _ _ _ _ zero es)=>SV.oK c zero&&es.all fun e=>SV.oK c e.2
 | .new (.HR _ _ _ n a)=>n.sc c&&a.sc c
 | .new (.RQ _ _ _)=>true
 | .set _ ck=>ck.sc c
 | .app _ (.bC _ _ _ _ n aF)=>n.sc c&&aF.all (bV.sc c)
 | .own (.bC _ _ _ _ n aF)=>n.sc c&&aF.all (bV.sc c)
 | .DM (.bC _ _ _ _ n aF)=>n.sc c&&aF.all (bV.sc c)
 | _=>false
def zq.grow(c:cP):zq→cP
 | .new _=>{c with b:=c.b+1}
 | .app .. =>{c with v:=c.v+1}
 | .own .. =>{c with v:=c.v+1}
 | .DM .. =>{c with v:=c.v+1}
 | _=>c
def hZ.sc(c:cP)(r:hZ):Bool:=r.val.sc (r.hO.grow c)&&r.vcs.all (BE.sc c)&&r.hO.sc c
inductive MK where
 | one (b:Nat)
 | many (b:Nat)
 deriving DecidableEq,Repr
def MK.sc(c:cP):MK→Bool
 | .one b=>afl b c.b
 | .many b=>afl b c.b
def kM:List MK→List MK→Option (List fD)
 | [],[]=>some []
 | .one b::r,.one b'::r'=>(kM r r').map (.bl b b':: ·)
 | .many b::r,.many b'::r'=>(kM r r').map (.bl b b':: ·)
 | _,_=>none
structure NT where
 n:Nat:=0
 ds:List MK:=[]
 deriving DecidableEq,Repr,Inhabited
structure St where
 fn:Nat:=0
 fr:List (Nat×SV):=[]
 hp:List Ck:=[]
 bd:cP:={}
 known:List BE:=[]
 nt:NT:={}
 deriving Inhabited
def look(fr:List (Nat×SV))(s:Nat):Option SV:=
 match fr with
 | []=>none
 | (t,v)::r=>if t==s then some v else look r s
def St.put(st:St)(d:Option Nat)(v:SV):St:=
 match d with
 | some d=>{st with fr:=(d,v)::st.fr.filter fun x=> !(x.1==d)}
 | none=>st
structure bz where
 use:List SV→List Ck→List Nat
 inc:cP:={}
 val:cP→SV
 new:cP→List Ck→List Ck
 valOf:Option (List SV→List Ck→SV):=none
def qm(ca:bz)(az:List SV)(hp:List Ck)(c:cP):SV:=
 match ca.valOf with
 | some g=>g az hp
 | none=>ca.val c
inductive qS where
 | slot (s t:Nat)
 | cell (i j t:Nat)
 | cut (s:Nat) (md:Bool)
 | s9 (i j:Nat) (md:Bool)
 | marks
 | mark
 | swap (s i:Nat)
 | own (s t:Nat)
structure jf where
 pre:List qS:=[]
 inc:cP:={}
 aT:cP→List (Nat×SV)
 hp:cP→List Ck→List Ck:=fun _ h=>h
 back:List qS:=[]
 ds:cP→List MK→List MK:=fun _ d=>d
structure nu where
 split:Option BE:=none
 pick:Option (List Nat):=none
 use:List Nat:=[]
 inc:cP:={}
 aT:List (Nat×SV):=[]
 new:List Ck:=[]
structure Ro where
 pre:List qS:=[]
 inc:cP:={}
 aT:cP→List (Nat×SV)
 hp:cP→List Ck→List Ck:=fun _ h=>h
 ds:cP→List MK→List MK:=fun _ d=>d
 gh:St→Option nu:=fun _=>none
inductive KI where
 | gh (g:St→Option nu)
 | code (c:Code)
 | ops (all:Array Oper) (rest:List Oper)
 | rC (all:Array Oper) (pm:List Nat) (rest:List Nat) (done:Nat) (log:List (Nat×List Nat))
 | MA (all:Array Oper) (pm:List Nat) (e:Nat) (rest:List Nat) (done:Nat) (log:List (Nat×List Nat)) (fn:Nat) (nt:NT) (fr:List (Nat×SV)) (hp:List Ck) (bd:cP)
 | mR (id:Nat)
 | again (body:Code)
 | loop (up:Nat) (nt:NT) (c0:cP) (inc:cP) (fr:List (Nat×SV)) (hp:List Ck) (bk:List qS)
 | jn (id:Option Nat) (up:Nat) (nt:NT) (c0:cP) (inc:cP) (fr:List (Nat×SV)) (hp:List Ck) (pre:List qS)
 | call (fn:Nat) (nt:NT) (fr:List (Nat×SV)) (dst:Option Nat) (callee:Func)
 | rf (l r:Nat) (fn:Nat) (nt:NT) (fr:List (Nat×SV)) (ps:Array Tmp) (assign body:Code) (callee:Func)
 | begin (l:Nat)
 | round (l:Nat) (fn:Nat) (nt:NT) (fr:List (Nat×SV)) (dst:Option Nat)
 | lv (l:Nat) (j:Jump) (fn:Nat) (nt:NT) (fr:List (Nat×SV)) (dst:Option Nat)
 | top (callee:Func)
 deriving Inhabited
structure W3 where
 val:SV
 vcs:List BE:=[]
 use:List Nat:=[]
 new:List Ck:=[]
structure Ctx where
 T:List TI
 FT:List (Nat×Func)
 calls:Nat→Nat→Option bz:=fun _ _=>none
 loops:Nat→Nat→Option jf:=fun _ _=>none
 Sg:Nat→Nat→Option Ro:=fun _ _=>none
 Oc:Nat→Nat→Option (St→Option nu):=fun _ _=>none
 cq:Nat→Option bz:=fun _=>none
 pure:Nat→Option (List SV→List Ck→Option W3):=fun _=>none
def Cx(C:Ctx)(f:Nat)(az:List SV)(hp:List Ck):Option W3:=
 match C.pure f with
 | some g=>g az hp
 | none=>none
def Si(C:Ctx)(fn d f:Nat):Option bz:=
 match C.calls fn d with
 | some ca=>some ca
 | none=>C.cq f
def kQ:List Cut→List Cut→Option (List fD)
 | [],[]=>some []
 | a::r,b::r'=>
  match a.mx,b.mx,kQ r r' with
  | none,none,some x=>some (.e a.lo b.lo:: .e a.hi b.hi::x)
  | some m,some m',some x=>some (.e a.lo b.lo:: .e a.hi b.hi:: .e m m'::x)
  | _,_,_=>none
 | _,_=>none
mutual
def sH:SV→SV→Option (List fD)
 | .int k a,.int k' b=>if k=k' then some [.e a b]else none
 | .bool a,.bool b=>some [.b a b]
 | .gI,.gI=>some []
 | .b_,.b_=>some []
 | .lH,.lH=>some []
 | .sd,.sd=>some []
 | .qu,.qu=>some []
 | .undef,.undef=>some []
 | .ptr b c,.ptr b' c'=>if c=c' then some [.bl b b']else none
 | .oJ b i s c,.oJ b' i' s' c'=>if c=c'∧s=s' then some [.bl b b',.e i i']else none
 | .pv b i s c,.pv b' i' s' c'=>if c=c'∧s=s' then some [.v b b',.e i i']else none
 | .sl b i s n m,.sl b' i' s' n' m'=>if s=s' then some [.bl b b',.e i i',.e n n',.e m m']else none
 | .vv i,.vv j=>some [.v i j]
 | .str l,.str l'=>if l=l' then some []else none
 | .kg s,.kg s'=>some [.af s s']
 | .FZ c v,.FZ c' v'=>some [.b c c',.v v v']
 | .L6 t k e,.L6 t' k' e'=>if t=t'∧k=k' then some [.e e e']else none
 | .kg s,.str l=>some [.af s (y9 l)]
 | .fn f cs,.fn f' uM=>if f=f' then fR cs uM else none
 | .agg cs,.agg uM=>fR cs uM
 | .cE k n a,.cE k' n' b=>if k=k'∧n=n' then some [.a (.lit n) a b]else none
 | .rR cs,.rR uM=>fR cs uM
 | .opt c v,.opt c' v'=>(sH v v').map (.b c c':: ·)
 | .Jz l,.Jz l'=>some [.bl l l']
 | .mp l,.mp l'=>some [.bl l l']
 | .nH e,.nH e'=>some [.e e e']
 | .nH e,.ptr b o=>if o=0 then some [.e e (.mR b)]else none
 | .nH e,.gI=>some [.e e (.lit 0)]
 | .ptr b o,.nH e=>if o=0 then some [.e (.mR b) e]else none
 | .K9 e,.K9 e'=>some [.e e e']
 | .K9 e,.b_=>some [.e e (.lit 0)]
 | .jP v cs s,.jP v' uM s'=>if s=s' then(kQ cs uM).map (.v v v':: ·)else none
 | _,_=>none
def fR:List SV→List SV→Option (List fD)
 | [],[]=>some []
 | a::r,b::r'=>match sH a b,fR r r' with
  | some x,some y=>some (x++y)
  | _,_=>none
 | _,_=>none
end
def iK(n:E):List bV→List bV→Option (List fD)
 | [],[]=>some []
 | a::r,b::r'=>
  match a.ck,b.ck with
  | .Ba l,.Ba l'=>if l.length=l'.length∧a.w=b.w then(iK n r r').map ((l.zip l').map (fun x=>fD.v x.1 x.2)++ ·)else none
  | _,_=>if a.ck=b.ck∧a.w=b.w then(iK n r r').map ((if a.ck= .str then .af a.a b.a else .a (o6 n (.lit a.w)) a.a b.a):: ·)
   else if a.ck= .cv∧b.ck= .b_∧a.w=b.w then(iK n r r').map (.a (o6 n (.lit a.w)) a.a (.lit 0):: ·)else none
 | _,_=>none
def jB:List bV→List bV→Option (List fD)
 | [],[]=>some []
 | a::r,b::r'=>
  match a.ck with
  | .Ba _=>none
  | _=>if a.ck=b.ck∧a.w=b.w then(jB r r').map (.af a.a b.a:: ·)else none
 | _,_=>none
def rB:Nat→List SV→List SV→List SV
 | 0,_,act=>act
 | f+1,.int _ _::p,.cE k (m+1) a::r=> .int k (gl a (.lit 0))::rB f p (if m=0 then r else .cE k m (jt a (.lit 1))::r)
 | f+1,.cE k n _::p,x::r=>
  if SV.width x=n then x::rB f p r else
  match i_ 0 n (x::r),fl n (x::r)with
  | some c,some d=>
   match rowOf c with
   | some (kl,e)=>if kl=List.replicate n k then .cE k n e::rB f p d else x::r
   | none=>x::r
  | _,_=>x::r
 | f+1,_::p,x::r=>x::rB f p r
 | _+1,_,act=>act
def qb:List (Nat×List SV)→List (Nat×List SV)→Option (List fD)
 | [],[]=>some []
 | (i,v)::r,(j,u)::r'=>if i=j then(match fR v u,qb r r' with
  | some x,some y=>some (x++y)
  | _,_=>none)else none
 | _,_=>none
def wB:Ck→Ck→Option (List fD)
 | .emp,.emp=>some []
 | .row b w cs,.row b' w' uM=>if w=w' then(fR cs (rB 200 cs uM)).map (.bl b b':: ·)else none
 | .bC md v t s n aF,.bC md' v' t' s' n' aZ=>if md=md'∧t=t'∧s=s' then(iK n aF aZ).map fun r=> .v v v':: .e n n'::r else none
 | .abs i,.abs j=>some [.p i j]
 | .kr l r s j,.kr l' r' s' j'=>if s=s'∧j=j' then some [.bl l l',.rc r r']else none
 | .J1 b,.J1 b'=>some [.bl b b']
 | .qy b,.qy b'=>some [.bl b b']
 | .map b kl ka va z has aF,.map b' Lf ZX ZY z' Gd aZ=>
  if kl=Lf∧ka=ZX∧va=ZY then
   match fR z z',jB aF aZ with
   | some x,some y=>some (.bl b b':: .af has Gd::(x++y))
   | _,_=>none
  else none
 | .sq b kl ka va z es,.sq b' Lf ZX ZY z' VH=>
  if kl=Lf∧ka=ZX∧va=ZY then
   match fR z z',qb es VH with
   | some x,some y=>some (.bl b b'::(x++y))
   | _,_=>none
  else none
 | .HR b t e n a,.HR b' t' e' n' a'=>if t=t'∧e=e' then some [.bl b b',.e n n',.a n a a']else none
 | .RQ b l p,.RQ b' l' p'=>if l=l'∧p=p' then some [.bl b b']else none
 | _,_=>none
def lU:List Ck→List Ck→Option (List fD)
 | [],_=>some []
 | a::r,b::r'=>match wB a b,lU r r' with
  | some x,some y=>some (x++y)
  | _,_=>none
 | _::_,[]=>none
def lT(pat act:List (Nat×SV)):Option (List fD):=
 match pat with
 | []=>some []
 | (s,v)::r=>match look act s,lT r act with
  | some v',some y=>(sH v v').map (· ++y)
  | _,_=>none
def fD.trivial(c:cP):fD→Bool
 | .e x y=>x==y&&x.sc c
 | .a n x y=>x==y&&x.sc c&&n.sc c
 | .b x y=>x==y&&x.sc c
 | .af x y=>x==y&&x.sc c
 | .v i j=>i==j&&afl i c.v
 | .p i j=>i==j&&afl i c.p
 | .bl i j=>i==j&&afl i c.b
 | .rc i j=>i==j&&afl i c.r
def writes:Code→List Nat
 | .region _ ops _=>ops.toList.filterMap (·.dst)
 | .seq a b=>writes a++writes b
 | .cond _ a b=>writes a++writes b
 | .block _ b=>writes b
 | .loop b=>writes b
 | .scope b=>writes b
 | .rangeFunc _ ps a b=>ps.toList++writes a++writes b
 | _=>[]
def c9(id:Nat):List KI→Option (List KI)
 | .mR i::k=>if i==id then some k else c9 id k
 | .again _::k=>c9 id k
 | .code _::k=>c9 id k
 | .ops .. ::k=>c9 id k
 | .loop .. ::k=>c9 id k
 | .gh _::k=>c9 id k
 | .jn i up nt c0 inc fr hp pre::k=>if i==some id then some (.jn i up nt c0 inc fr hp pre::k)else c9 id k
 | .round l fn nt fr d::k=>some (.lv l (.exit id) fn nt fr d::k)
 | _=>none
def fY:List KI→Option (List KI)
 | .call fn nt fr d f::k=>some (.call fn nt fr d f::k)
 | .top f::k=>some (.top f::k)
 | .rf l r fn nt fr ps x y f::k=>some (.rf l r fn nt fr ps x y f::k)
 | .round l fn nt fr d::k=>some (.lv l .ret fn nt fr d::k)
 | .mR _::k=>fY k
 | .again _::k=>fY k
 | .code _::k=>fY k
 | .ops .. ::k=>fY k
 | .loop .. ::k=>fY k
 | .jn .. ::k=>fY k
 | .gh _::k=>fY k
 | _=>none
def yD:List KI→Option Nat
 | []=>none
 | .call .. ::_=>none
 | .top _::_=>none
 | .rf .. ::_=>none
 | .begin l::_=>some l
 | .round l .. ::_=>some l
 | _::k=>yD k
def nl:List KI→Nat
 | []=>0
 | .loop .. ::k=>nl k+1
 | .jn .. ::k=>nl k+1
 | _::k=>nl k
def Cy(T:List TI)(st:St):ResultVar→Option SV
 | .tmp t=>look st.fr t
 | .cell a t=>match a_ T t,look st.fr a with
  | some ti,some x=>match wv st.hp ti.k.agg ti.size x with
   | some r=>if r.vcs.isEmpty then some r.val else none
   | none=>none
  | _,_=>none
def yE(T:List TI)(st:St)(fn:Func):Option SV:=
 match jc (fn.results.toList.map (Cy T st))with
 | some [v]=>some v
 | some vs=>some (.rR vs)
 | none=>none
def Od:Env:={}
def BE.sure(b:BE):Bool:=b.sc {}&&b.den Od
def more(vcs known:List BE):List BE:=vcs.filter (fun b=> !b.sure)++known
def UU(g:Option BE)(b:BE):BE:=
 match g with
 | some c=>Xz (iZ c) b
 | none=>b
def pQ(g:Option BE):List BE→List BE→F→F
 | [],_,r=>r
 | b::bs,known,r=>if UU g b== .lit true||known.contains (UU g b)||(UU g b).sure then pQ g bs known r else .vc (UU g b) (pQ g bs known r)
def mC(ρ:Env):Option BE→Bool
 | some c=>c.den ρ
 | none=>true
def guardOf(all:Array Oper)(fr:List (Nat×SV))(o:Oper):Option (Option BE):=
 match o.guard with
 | none=>some none
 | some (j,want)=>
  match all[j]? with
  | some oj=>match oj.dst with
   | some d=>match look fr d with
    | some (.bool b)=>some (some (if want then b else iZ b))
    | some (.opt c (.bool b))=>some (some (y_ c (if want then b else iZ b)))
    | some .undef=>some (some (.lit false))
    | some (.opt _ .undef)=>some (some (.lit false))
    | _=>none
   | none=>none
  | none=>none
def c7(st:St)(e:zq):St:=
 match e with
 | .none=>st
 | .new ck=>{st with hp:=st.hp++[ck],bd:={st.bd with b:=st.bd.b+1}}
 | .set i ck=>{st with hp:=st.hp.set i ck}
 | .app i ck=>{st with hp:=st.hp.set i ck,bd:={st.bd with v:=st.bd.v+1}}
 | .own ck=>{st with hp:=st.hp++[ck],bd:={st.bd with v:=st.bd.v+1}}
 | .DM ck=>{st with hp:=st.hp++[ck],bd:={st.bd with v:=st.bd.v+1}}
def jY{α:Type}(e:α)(hp:List α):List Nat→List α→List α
 | i::r,c::cs=>jY e (hp.set i c) r cs
 | i::r,[]=>jY e (hp.set i e) r []
 | [],cs=>hp++cs
def fw(hp:List Ck)(use:List Nat)(new:List Ck):List Ck:=jY .emp hp use new
def I1(T:List TI)(st:St)(t:Nat):Option St:=
 match a_ T t,uq T 30 t with
 | some ti,some aF=>if aF.all (bV.sc st.bd)then some {st with hp:=st.hp++[.bC true st.bd.v t ti.size (.lit 0) aF],bd:={st.bd with v:=st.bd.v+1}}else none
 | _,_=>none
inductive yF where
 | nil
 | cut (vcs:List BE)
 | mR
 | same
def yG(st:St)(x:SV)(md:Bool):Option (St×yF):=
 match fE st.hp x with
 | some r=>
  match gU r.p.lo r.aF with
  | some aF=>
   if r.s=bW r.aF∧(md=true→r.md=true)∧r.p.len.sc st.bd=true∧aF.all (bV.sc st.bd)=true then
    some ({st with hp:=st.hp.set r.j (.bC md st.bd.v r.t r.s r.p.len aF),bd:={st.bd with v:=st.bd.v+1}},.cut (r.vcs++dJ (.lit 0) r.p.len))
   else none
  | none=>none
 | none=>none
def Oe(st:St)(x:SV)(t:Nat):Option (St×yF):=
 match x with
 | .sl b i s n m=>
  match findAt st.hp b,fe i,fe n with
  | some (j,.row _ true cs),some 0,some q=>
   match rowOf cs with
   | some (ki::kl,a)=>
    if n=m∧s=1∧kl.length+1=q∧ki::kl=List.replicate q ki∧q≤140737488355328∧a.sc st.bd=true then
     some ({st with hp:=st.hp.set j (.bC true st.bd.v t 1 (.lit (q:Int)) [⟨.int ki,1,a⟩]),bd:={st.bd with v:=st.bd.v+1}},.cut [])
    else none
   | _=>none
  | _,_,_=>none
 | _=>none
def Ck.AW(b:Nat):Ck→Bool
 | .J1 b'=>b==b'
 | _=>false
def Ck.uv(b:Nat):Ck→Bool
 | .qy b'=>b==b'
 | _=>false
def swapAt(hp:List Ck)(i j:Nat):List Ck:=
 match hp[i]?,hp[j]? with
 | some d,some c=>(hp.set i c).set j d
 | _,_=>hp
def Uq(st:St)(s:Nat):Option Nat:=
 match look st.fr s with
 | some (.ptr b _)=>(findAt st.hp b).map (·.1)
 | some (.vv v)=>(dU st.hp v).map (·.1)
 | some (.sl b _ _ _ _)=>(findAt st.hp b).map (·.1)
 | _=>none
def dG(T:List TI)(st:St)(x:qS):Option (St×yF):=
 match x with
 | .slot s t=>match look st.fr s with
  | some .b_=>(I1 T st t).map fun c_=>(c_.put (some s) (.vv st.bd.v),.nil)
  | _=>none
 | .cell i j t=>match st.hp[i]? with
  | some (.row b w cs)=>match cs[j]? with
   | some .b_=>(I1 T st t).map fun c_=>({c_ with hp:=c_.hp.set i (.row b w (cs.set j (.vv st.bd.v)))},.nil)
   | _=>none
  | _=>none
 | .cut s md=>match look st.fr s with
  | some x=>(yG st x md).map fun y=>(y.1.put (some s) (.vv st.bd.v),y.2)
  | none=>none
 | .s9 i j md=>match st.hp[i]? with
  | some (.row b w cs)=>match cs[j]? with
   | some x=>match yG st x md with
    | some (c_,wr)=>match c_.hp[i]? with
     | some (.row b' w' _)=>if b'=b∧w'=w then some ({c_ with hp:=c_.hp.set i (.row b w (cs.set j (.vv st.bd.v)))},wr)else none
     | _=>none
    | none=>none
   | none=>none
  | _=>none
 | .marks=>some ({st with nt:={st.nt with ds:= .many st.bd.b::st.nt.ds},hp:=st.hp++[.qy st.bd.b],bd:={st.bd with b:=st.bd.b+1}},.mR)
 | .mark=>match st.nt.ds with
  | .one b:: .many c::ds=>match st.hp.findIdx? (Ck.AW b),st.hp.findIdx? (Ck.uv c)with
   | some i,some j=>some ({st with nt:={st.nt with ds:= .many st.bd.b::ds},hp:=(st.hp.set i .emp).set j (.qy st.bd.b),bd:={st.bd with b:=st.bd.b+1}},.mR)
   | _,_=>none
  | .many _::_=>some (st,.same)
  | _=>none
 | .own s t=>match look st.fr s with
  | some x=>(Oe st x t).map fun y=>(y.1.put (some s) (.vv st.bd.v),y.2)
  | none=>none
 | .swap s i=>match Uq st s with
  | some j=>some ({st with hp:=swapAt st.hp i j},.same)
  | none=>none
def rN(T:List TI):St→List qS→Option (St×List yF)
 | st,[]=>some (st,[])
 | st,x::r=>match dG T st x with
  | some (c_,y)=>match rN T c_ r with
   | some (s2,k)=>some (s2,y::k)
   | none=>none
  | none=>none
def ZZ:List BE→F→F
 | [],f=>f
 | b::r,f=> .vc b (ZZ r f)
def fL:List yF→F→F
 | [],f=>f
 | .nil::r,f=> .Vd (fL r f)
 | .mR::r,f=> .PL (fL r f)
 | .same::r,f=>fL r f
 | .cut vcs::r,f=>ZZ vcs (.Dz (fL r f))
def yH(look:Nat→Option SV)(o:Oper):Option (Nat×List SV):=
 match o.op with
 | .call {callee:= .value f,args,.. }=>
  match iD look f,jc (args.toList.map (iD look))with
  | some (.fn f caps),some az=>some (f,az++caps)
  | _,_=>none
 | _=>none
def ep(n:Nat):List SV→List (Nat×SV)
 | []=>[]
 | v::r=>(n,v)::ep (n+1) r
def qn(known:List BE)(b:BE):BE:=
 match b with
 | .lit x=> .lit x
 | b=>if b.sc {}then .lit (b.den Od)else if known.contains b then .lit true else if known.contains (iZ b)then .lit false else b
def SV.Hb(c:BE):SV→SV
 | .opt c' v=>
  if c'=c then v else
  match c' with
  | .and a b=>if a=c then .opt b v else .opt (.and a b) v
  | c'=> .opt c' v
 | .bool b=>if b=c then .bool (.lit true)else .bool b
 | v=>v
def SV.qA(c:BE):SV→SV
 | .opt c' v=>
  if c'=c then .undef else
  match c' with
  | .and a b=>if a=c then .undef else .opt (.and a b) v
  | c'=> .opt c' v
 | .bool b=>if b=c then .bool (.lit false)else .bool b
 | v=>v
def St.Hb(c:BE)(st:St):St:={st with fr:=st.fr.map fun x=>(x.1,x.2.Hb c),known:=c::st.known}
def St.qA(c:BE)(st:St):St:={st with fr:=st.fr.map fun x=>(x.1,x.2.qA c),known:=iZ c::st.known}
def under(c:BE)(lk:Nat→Option SV)(s:Nat):Option SV:=
 match lk s with
 | some (.opt c' v)=>
  if c'=c then some v else
  match c' with
  | .and a b=>if a=c then some (.opt b v)else some (.opt (.and a b) v)
  | c'=>some (.opt c' v)
 | x=>x
def Hc(fr:List (Nat×SV))(known:List BE)(x:Operand):Option BE:=
 match iD (look fr) x with
 | some (.bool b)=>some (qn known b)
 | _=>none
def qd(all:Array Oper)(fr:List (Nat×SV))(known:List BE)(o:Oper):Option (Option BE):=
 match guardOf all fr o with
 | some (some b)=>match qn known b with
  | .lit true=>some none
  | b=>some (some b)
 | x=>x
def SV.fix(known:List BE):SV→SV
 | .opt c v=>match qn known c with
  | .lit true=>v
  | .lit false=> .undef
  | _=> .opt c v
 | .bool b=> .bool (qn known b)
 | v=>v
def SV.Ur(c:BE)(known:List BE):SV→SV
 | .bool b=>if known.contains (iZ (y_ c b))then .bool (.lit false)else .bool b
 | .opt b v=>if known.contains (iZ (y_ c b))then .undef else .opt b v
 | v=>v
def Av(g:Option BE)(known:List BE)(fr:List (Nat×SV))(s:Nat):Option SV:=
 match g with
 | some c=>(under c (look fr) s).map fun v=>(v.fix known).Ur c known
 | none=>(look fr s).map (SV.fix known)
def Op.quiet:Op→Bool
 | .move _ | .assign _ | .pick .. | .build .. | .load .. | .nilCheck _ | .binOp .. | .unOp .. | .sliceToArrayPointer .. | .fieldAddr .. | .field .. | .indexAddr .. | .index .. | .extract .. | .makeFunc .. | .makeInterface .. | .slice .. | .lookup .. =>true
 | .convert a b _=> !(a==b)
 | .call {callee:= .builtin .len,.. }=>true
 | .call {callee:= .builtin .max,.. }=>true
 | .call {callee:= .builtin .min,.. }=>true
 | _=>false
def lA(all:Array Oper)(done:Nat)(i:Nat):Bool:=
 match all[i]? with
 | some o=>o.after.toList.all fun e=> !afJ .any e||done.testBit e.on
 | none=>false
def Og(all:Array Oper):List Nat→List Nat→List Nat
 | [],acc=>acc
 | i::r,acc=>
  match all[i]? with
  | some o=>Og all r (acc++[o.after.toList.foldl (fun s e=>if afJ .any e&&afl e.on i then s|||(1 <<< e.on)|||acc.getD e.on 0 else s) 0])
  | none=>acc
def slotsOf(all:Array Oper)(o:Oper):List Nat:=
 o.op.operands.toList.filterMap (fun | .tmp t=>some t | _=>none)++
  (match o.guard with | some (j,_)=>(match all[j]? with | some oj=>oj.dst.toList | none=>[]) | none=>[])
def j4(all:Array Oper)(pm:List Nat):Bool:=
 (List.range all.size).all fun i=>
  match all[i]? with
  | some oi=>
   match oi.dst with
   | some d=>
    (List.range all.size).all fun j=>
     match all[j]? with
     | some oj=>i==j|| !((slotsOf all oj).contains d||oj.dst==some d)||(pm.getD j 0).testBit i||(pm.getD i 0).testBit j
     | none=>true
   | none=>true
  | none=>true
def xU(all:Array Oper)(pm:List Nat):Bool:=
 (List.range all.size).all fun p=>
  match all[p]? with
  | some o=>
   (o.after.toList.all fun e=> !afJ .any e||afl e.on p)&&
   ((List.range all.size).all fun q=> !(pm.getD p 0).testBit q||o.after.toList.any fun e=>afJ .any e&&(q==e.on||(pm.getD e.on 0).testBit q))
  | none=>true
def BC(all:Array Oper)(i:Nat):Bool:=
 match all[i]? with
 | some o=>Op.quiet o.op
 | none=>false
def restrict(fr:List (Nat×SV))(aT:List Nat):List (Nat×SV):=fr.filter fun x=>aT.contains x.1
def kept(c:cP)(hp kT:List Ck)(rd:List Nat):Bool:=
 rd.all fun j=>
  match hp[j]?,kT[j]? with
  | some a,some b=>(match wB a b with | some l=>l.all (fD.trivial c) | none=>false)
  | none,_=>true
  | _,_=>false
def fB(st:St)(fn:Nat)(nt:NT)(fr:List (Nat×SV)):St:={st with fn:=fn,nt:=nt,fr:=fr}
def pB(st:St)(d:Option Nat):Bool:=
 match d with
 | some d=>afl d st.nt.n
 | none=>true
def nZ(C:Ctx)(g:Option BE)(st:St)(o:Oper):Option hZ:=
 match dA C.T (Av g st.known st.fr) st.hp st.bd.b st.bd.v o with
 | some res=>if res.sc st.bd then some res else none
 | none=>none
def D1(C:Ctx)(g:Option BE)(st:St)(o:Oper):Option hZ:=
 match g with
 | some (.lit false)=>some {val:= .undef}
 | g=>nZ C g st o
def gsc(c:cP):Option BE→Bool
 | some b=>b.sc c
 | none=>true
def J8:Option BE→SV→SV
 | some c,v=> .opt c v
 | none,v=>v
def Bz:Option BE→List BE→List BE→List BE
 | some _,_,k=>k
 | none,vcs,k=>more vcs k
def leave:List Ck→List MK→Option (List Ck)
 | hp,[]=>some hp
 | hp,.one d::ds=>
  match hp.findIdx? (Ck.AW d)with
  | some i=>leave (hp.set i .emp) ds
  | none=>none
 | hp,.many d::ds=>
  match hp.findIdx? (Ck.uv d)with
  | some i=>leave (hp.set i .emp) ds
  | none=>none
def lW(st:St):Option St:=(leave st.hp st.nt.ds).map fun hp=>{st with hp:=hp}
def qo(l:Nat):List KI→Option (Nat×Nat×NT×List (Nat×SV)×Array Tmp×Code×Code)
 | []=>none
 | .rf l' r fn nt fr ps x y _::k=>if l'==l then some (r,fn,nt,fr,ps,x,y)else qo l k
 | _::k=>qo l k
def Ck.isRec(l:Nat):Ck→Bool
 | .kr l' _ _ _=>l==l'
 | _=>false
def recAt(hp:List Ck)(l:Nat):Option (Nat×Nat×RS×Jump):=
 match hp.findIdx? (Ck.isRec l)with
 | some i=>
  match hp[i]? with
  | some (.kr _ r s j)=>some (i,r,s,j)
  | _=>none
 | none=>none
def kx(st:St):List (Nat×SV)→Option St
 | []=>some st
 | (d,v)::r=>if pB st (some d)&&v.sc st.bd then kx (st.put (some d) v) r else none
def Oh(look:Nat→Option SV)(o:Oper):Option (Nat×List SV):=
 match o.op with
 | .call {callee:= .value f,args,.. }=>
  match iD look f,jc (args.toList.map (iD look))with
  | some (.Jz l),some az=>some (l,az)
  | _,_=>none
 | _=>none
def run(C:Ctx):Nat→List KI→St→F
 | 0,_,_=> .fail "fuel"
 | _+1,[],_=> .fail "end"
 | n+1,.mR _::k,st=>run C n k st
 | n+1,.gh g::k,st=>
  match g st with
  | none=>run C n k st
  | some s=>
   match s.split with
   | some b=>if b.sc st.bd then .fork b (run C n (.gh g::k) {st with known:=b::st.known}) (run C n (.gh g::k) {st with known:=iZ b::st.known})else .fail "scope"
   | none=>
   match s.pick with
   | some idx=>if idx.all (fun i=>afl i st.hp.length)&&decide idx.Nodup then run C n k {st with hp:=idx.map fun i=>st.hp.getD i .emp}else .fail "pick"
   | none=>
   let lK:=st.bd.add s.inc
   match lT s.aT st.fr with
   | some eqs=>
    if kH lK s.aT&&s.new.all (Ck.sc lK)&&s.use.all (fun i=>afl i st.hp.length)&&decide s.use.Nodup then
     .ghost (s.use.map fun i=>st.hp.getD i .emp) s.inc eqs s.new (run C n k {st with fr:=s.aT++st.fr.filter (fun x=> !(s.aT.any fun y=>y.1==x.1)),hp:=fw st.hp s.use s.new,bd:=lK})
    else .fail "scope"
   | none=> .fail "ghost"
 | n+1,.again body::k,st=>run C n (.code body:: .again body::k) st
 | _+1,.loop up nt c0 inc fr hp bk::_,st=>
  match rN C.T st bk with
  | none=> .fail "nil back"
  | some (st,nn)=>
  fL nn <|
  match lT fr st.fr,lU hp st.hp,kM nt.ds st.nt.ds with
  | some a,some b,some d=>if st.nt.n != nt.n then .fail "frame" else .back up c0 inc ((a++b++d).filter fun q=> !q.trivial c0)
  | _,_,none=> .fail "marks"
  | _,_,_=> .fail "back"
 | _+1,.jn _ up nt c0 inc fr hp pre::_,st=>
  match rN C.T st pre with
  | none=> .fail "nil join"
  | some (st,nn)=>
  fL nn <|
  match lT fr st.fr,lU hp st.hp,kM nt.ds st.nt.ds with
  | some a,some b,some d=>if st.nt.n != nt.n then .fail "frame" else .meet up c0 inc ((a++b++d).filter fun q=> !q.trivial c0)
  | _,_,none=> .fail "join marks"
  | none,_,_=> .fail "join slots"
  | _,_,_=> .fail "join"
 | n+1,.call fn nt fr d f::k,st=>
  match lW st with
  | some st=>
   match yE C.T st f with
   | some v=>if pB (fB st fn nt fr) d&&v.sc st.bd then run C n k ((fB st fn nt fr).put d v)else .fail "destination"
   | none=> .fail "results"
  | none=> .fail "marks"
 | _+1,.top f::_,st=>
  match lW st with
  | some st=>
   match yE C.T st f with
   | some v=> .ret v st.hp
   | none=> .fail "results"
  | none=> .fail "marks"
 | n+1,.code c::k,st=>
  match c with
  | .skip=>run C n k st
  | .label _=>run C n k st
  | .seq a b=>run C n (.code a:: .code b::k) st
  | .cond x t e=>
   match Hc st.fr st.known x with
   | some (.lit true)=>run C n (.code t::k) st
   | some (.lit false)=>run C n (.code e::k) st
   | some b=>if b.sc st.bd then .fork b (run C n (.code t::k) {st with known:=b::st.known}) (run C n (.code e::k) {st with known:=iZ b::st.known})else .fail "scope"
   | none=> .fail "cond"
  | .block id b=>
   match C.Sg st.fn id with
   | none=>run C n (.code b:: .mR id::k) st
   | some ja=>
    let ws:=writes b
    let aT:=ja.aT st.bd
    let FI:=aT++st.fr.filter fun x=> !(ws.contains x.1)&& !(aT.any fun y=>y.1==x.1)
    let kT:=ja.hp st.bd st.hp
    let lK:=st.bd.add ja.inc
    let wN:NT:={st.nt with ds:=ja.ds st.bd st.nt.ds}
    if kH lK aT&&kT.all (Ck.sc lK)&&aT.all (fun x=>afl x.1 st.nt.n)&&wN.ds.all (MK.sc lK)then
     .join (nl k) ja.inc (run C n (.code b:: .jn (some id) (nl k) wN st.bd ja.inc FI kT ja.pre::k) st) (run C n k {st with fr:=FI,hp:=kT,bd:=lK,known:=[],nt:=wN})
    else .fail "scope"
  | .loop body=>
   match k with
   | .mR id::_=>
    match C.loops st.fn id with
    | none=>run C n (.code body:: .again body::k) st
    | some la=>
     match rN C.T st la.pre with
     | none=> .fail "nil" id
     | some (st,nn)=>
     fL nn <|
     let ws:=writes body
     let aT:=la.aT st.bd
     let FI:=aT++st.fr.filter fun x=> !(ws.contains x.1)&& !(aT.any fun y=>y.1==x.1)
     let kT:=la.hp st.bd st.hp
     let lK:=st.bd.add la.inc
     let wN:NT:={st.nt with ds:=la.ds st.bd st.nt.ds}
     match lT aT st.fr,lU kT st.hp,kM wN.ds st.nt.ds with
     | some a,some b,some d=>
      if kH lK aT&&kT.all (Ck.sc lK)&&aT.all (fun x=>afl x.1 st.nt.n)&&wN.ds.all (MK.sc lK)then
       .loop (nl k) la.inc ((a++b++d).filter fun q=> !q.trivial st.bd)
        (run C n (.code body:: .loop (nl k) wN st.bd la.inc FI kT la.back::k) {st with fr:=FI,hp:=kT,bd:=lK,known:=[],nt:=wN})
      else .fail "scope"
     | _,_,_=> .fail "loop entry" id
   | _=>run C n (.code body:: .again body::k) st
  | .exit id=>match c9 id k with
   | some k'=>run C n k' st
   | none=> .fail "exit" id
  | .ret=>match fY k with
   | some k'=>run C n k' st
   | none=> .fail "ret"
  | .region id ops false=>
   match C.Oc st.fn id with
   | none=>run C n (.ops ops ops.toList::k) st
   | some g=>run C n (.ops ops ops.toList:: .gh g::k) st
  | .region id ops true=>
   let pm:=Og ops (List.range ops.size) []
   if j4 ops pm&&xU ops pm then
    match C.Sg st.fn (id+100000)with
    | some ja=>
     let aT:=ja.aT st.bd
     let FI:=aT++st.fr.filter fun x=> !((writes (.region id ops true)).contains x.1)&& !(aT.any fun y=>y.1==x.1)
     let kT:=ja.hp st.bd st.hp
     let lK:=st.bd.add ja.inc
     let wN:NT:={st.nt with ds:=ja.ds st.bd st.nt.ds}
     if kH lK aT&&kT.all (Ck.sc lK)&&aT.all (fun x=>afl x.1 st.nt.n)&&wN.ds.all (MK.sc lK)then
      .join (nl k) ja.inc (run C n (.rC ops pm (List.range ops.size) 0 []:: .gh ja.gh:: .jn none (nl k) wN st.bd ja.inc FI kT ja.pre::k) st) (run C n k {st with fr:=FI,hp:=kT,bd:=lK,known:=[],nt:=wN})
     else .fail "scope"
    | none=>
    match C.Oc st.fn id with
    | none=>run C n (.rC ops pm (List.range ops.size) 0 []::k) st
    | some g=>run C n (.rC ops pm (List.range ops.size) 0 []:: .gh g::k) st
   else .fail "order"
  | .rangeFunc g ps x y=>
   match iD (look st.fr) g with
   | some (.fn f caps)=>
    match C.FT.find? fun x=>x.1==f with
    | none=> .fail "call" f
    | some (_,fd)=>
     match fd.body with
     | none=> .fail "no body" f
     | some c=>
      if SV.oK st.bd caps then
       match yD k with
       | none=>
        .Bg true (run C n (.code c:: .rf (st.bd.b+1) st.bd.r st.fn ⟨st.nt.n,.one st.bd.b::st.nt.ds⟩ st.fr ps x y fd::k)
         (fB {st with hp:=st.hp++[.J1 st.bd.b]++[.kr (st.bd.b+1) st.bd.r .ready .none],bd:={st.bd with b:=st.bd.b+2,r:=st.bd.r+1}} f ⟨fd.ntmps,[]⟩ (ep 0 (.Jz (st.bd.b+1)::caps))))
       | some l0=>
        match recAt st.hp l0 with
        | some _=>
         .Bg false (run C n (.code c:: .rf st.bd.b st.bd.r st.fn st.nt st.fr ps x y fd::k)
          (fB {st with hp:=st.hp++[.kr st.bd.b st.bd.r .ready .none],bd:={st.bd with b:=st.bd.b+1,r:=st.bd.r+1}} f ⟨fd.ntmps,[]⟩ (ep 0 (.Jz st.bd.b::caps))))
        | none=> .fail "round"
      else .fail "scope"
   | _=> .fail "range over what"
  | _=> .fail "code"
 | n+1,.ops _ []::k,st=>run C n k st
 | n+1,.ops all (o::rest)::k,st=>
  if pB st o.dst then
  match qd all st.fr st.known o with
  | none=> .fail "guard" (st.fn*1000+o.dst.getD 0)
  | some (some (.lit false))=>run C n (.ops all rest::k) (st.put o.dst .undef)
  | some (some c)=>
   if c.sc st.bd then
    match nZ C (some c) st o with
    | some res=>
     match res.hO with
     | .none=>pQ (some c) res.vcs st.known (run C n (.ops all rest::k) (st.put o.dst (.opt c res.val)))
     | _=> .fork c (run C n (.ops all ({o with guard:=none}::rest)::k) (st.Hb c)) (run C n (.ops all rest::k) ((st.qA c).put o.dst .undef))
    | none=> .fork c (run C n (.ops all ({o with guard:=none}::rest)::k) (st.Hb c)) (run C n (.ops all rest::k) ((st.qA c).put o.dst .undef))
   else .fail "scope"
  | some none=>
   match nZ C none st o with
   | some res=>
    let nx:=run C n (.ops all rest::k) (({c7 st res.hO with known:=more res.vcs st.known}).put o.dst res.val)
    pQ none res.vcs st.known (match res.hO with | .new _=> .PL nx | .app .. => .Dz nx | .own .. => .Dz nx | .DM .. => .Dz nx | _=>nx)
   | none=>
    match yH (look st.fr) o with
    | some (f,az)=>
     match C.FT.find? fun x=>x.1==f with
     | none=> .fail "call" f
     | some (_,fd)=>
      match fd.body with
      | none=>
       match Si C st.fn (o.dst.getD 0) f with
       | some ca=>
        if(qm ca az st.hp st.bd).sc (st.bd.add ca.inc)&&(ca.new st.bd ((ca.use az st.hp).map fun i=>st.hp.getD i .emp)).all (Ck.sc (st.bd.add ca.inc))&&(ca.use az st.hp).all (fun i=>afl i st.hp.length)&&decide (ca.use az st.hp).Nodup then
         .ext f az ((ca.use az st.hp).map fun i=>st.hp.getD i .emp) ca.inc (qm ca az st.hp st.bd) (ca.new st.bd ((ca.use az st.hp).map fun i=>st.hp.getD i .emp))
          (run C n (.ops all rest::k) ({st with hp:=fw st.hp (ca.use az st.hp) (ca.new st.bd ((ca.use az st.hp).map fun i=>st.hp.getD i .emp)),bd:=st.bd.add ca.inc}.put o.dst (qm ca az st.hp st.bd)))
        else .fail "scope"
       | none=> .fail "no body" f
      | some c=>
       match Cx C f az st.hp with
       | some r=>
        if r.val.sc st.bd&&r.new.all (Ck.sc st.bd)&&r.use.all (fun i=>afl i st.hp.length)&&decide r.use.Nodup then
         pQ none r.vcs st.known (run C n (.ops all rest::k) ({st with hp:=fw st.hp r.use r.new}.put o.dst r.val))
        else .fail "scope"
       | none=>
       match Si C st.fn (o.dst.getD 0) f with
       | some ca=>
        let use:=ca.use az st.hp
        let new:=ca.new st.bd (use.map fun i=>st.hp.getD i .emp)
        let v:=qm ca az st.hp st.bd
        let lK:=st.bd.add ca.inc
        if v.sc lK&&new.all (Ck.sc lK)&&use.all (fun i=>afl i st.hp.length)&&decide use.Nodup then
         .call f az (use.map fun i=>st.hp.getD i .emp) ca.inc v new (run C n (.ops all rest::k) ({st with hp:=fw st.hp use new,bd:=lK}.put o.dst v))
        else .fail "scope"
       | none=>
        if SV.oK st.bd az then run C n (.code c:: .call st.fn st.nt st.fr o.dst fd:: .ops all rest::k) (fB st f ⟨fd.ntmps,[]⟩ (ep 0 az))else .fail "scope"
    | none=>
    match Oh (look st.fr) o with
    | some (l,az)=>
     match qo l k,recAt st.hp l with
     | some (r,fn,nt,fr,ps,x,y),some (_,r',_,_)=>
      if r=r'&&az.length==ps.size then
       match kx (fB st fn ⟨nt.n,[]⟩ fr) (ps.toList.zip az)with
       | some kN=>run C n (.code x:: .begin l:: .code y:: .round l st.fn st.nt st.fr o.dst:: .ops all rest::k) kN
       | none=> .fail "slot"
      else .fail "yield"
     | _,_=> .fail "yield"
    | none=> .fail "op" (st.fn*1000+o.dst.getD 0)
  else .fail "slot"
 | n+1,.rf l _ fn nt fr _ _ _ fd::k,st=>
  match lW st with
  | some st=>
   match yE C.T st fd,recAt st.hp l with
   | some _,some (i,r,s,j)=>
    if s= .busy then .fail "busy" else
    match j with
    | .none=>run C n k (fB {st with hp:=st.hp.set i (.kr l r .exhausted j)} fn nt fr)
    | .ret=>run C n (.code .ret::k) (fB {st with hp:=st.hp.set i (.kr l r .exhausted j)} fn nt fr)
    | .exit id=>run C n (.code (.exit id)::k) (fB {st with hp:=st.hp.set i (.kr l r .exhausted j)} fn nt fr)
   | _,_=> .fail "results"
  | none=> .fail "marks"
 | n+1,.begin l::k,st=>
  match recAt st.hp l with
  | some (i,r,.ready,j)=>run C n k {st with hp:=st.hp.set i (.kr l r .busy j)}
  | _=> .fail "not ready"
 | n+1,.round l fn nt fr d::k,st=>run C n (.lv l .none fn nt fr d::k) st
 | n+1,.lv l j fn nt fr d::k,st=>
  match recAt st.hp l with
  | some (i,r,_,_)=>
   if pB (fB st fn nt fr) d then
    run C n k ((fB {st with hp:=st.hp.set i (.kr l r (if j= .none then .ready else .done) j)} fn nt fr).put d (.bool (.lit (decide (j= .none)))))
   else .fail "slot"
  | none=> .fail "record"
 | n+1,.rC all pm rest done log::k,st=>
  match rest with
  | []=>run C n k st
  | _=>
   match rest.find? fun i=>BC all i&&lA all done i with
   | some i=>
    match all[i]? with
    | some o=>
     if pB st o.dst then
      match qd all (restrict st.fr (slotsOf all o)) st.known o with
      | none=> .fail "guard" i
      | some g=>
       if gsc st.bd g then
        match D1 C g {st with fr:=restrict st.fr (slotsOf all o)} o with
        | some res=>
         match res.hO with
         | .none=>
          pQ g res.vcs st.known (run C n (.rC all pm (rest.filter fun j=>j != i) (done|||(1 <<< i)) ((i,res.rd)::log)::k)
           (({st with known:=Bz g res.vcs st.known}).put o.dst (J8 g res.val)))
         | _=> .fail "effect" i
        | none=> .fail "quiet" i
       else .fail "scope"
     else .fail "slot"
    | none=> .fail "no op"
   | none=>
    MC ((rest.filter (lA all done)).map fun e=>
     match all[e]? with
     | some o=>
      if pB st o.dst then run C n (.ops all [o]:: .MA all pm e rest done log st.fn st.nt st.fr st.hp st.bd::k) {st with fr:=restrict st.fr (slotsOf all o)}else .fail "slot"
     | none=> .fail "no op")
 | n+1,.MA all pm e rest done log fn nt fr hp bd::k,st=>
  match all[e]? with
  | some o=>
   if(log.all fun x=>(pm.getD e 0).testBit x.1||kept bd hp st.hp x.2)&&st.nt==nt then
    match (match o.dst with | some d=>look st.fr d | none=>some .undef)with
    | some v=>run C n (.rC all pm (rest.filter fun j=>j != e) (done|||(1 <<< e)) log::k) ((fB st fn nt fr).put o.dst v)
    | none=> .fail "result"
   else .fail "read beside"
  | none=> .fail "no op"
def iq(C:Ctx)(f:Nat)(args:List SV)(hp:List Ck)(bd:cP)(fd:Func):F:=
 match fd.body with
 | some c=>if SV.oK bd args&&hp.all (Ck.sc bd)then run C 100000 [.code c,.top fd] {fn:=f,fr:=ep 0 args,hp:=hp,bd:=bd,nt:=⟨fd.ntmps,[]⟩}else .fail "scope"
 | none=> .fail "no body"
end Go.RX
