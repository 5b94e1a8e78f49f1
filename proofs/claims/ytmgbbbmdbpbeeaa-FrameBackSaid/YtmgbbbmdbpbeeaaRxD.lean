/- Executor. -/
import Derived.Test.YtmgbbbmdbpbeeaaRxC
open Go.Region renaming binds → aeg
open Nat renaming blt → adV
namespace Go.RX
def cG.add(a b:cG):cG:=⟨a.b+b.b,a.v+b.v,a.i+b.i,a.a+b.a,a.bo+b.bo,a.p+b.p,a.r+b.r⟩
inductive eX where
 | e (a b:E)
 | a (n:E) (a b:E)
 | af (a b:E)
 | b (a b:BE)
 | v (i j:Nat)
 | p (i j:Nat)
 | bl (i j:Nat)
 | rc (i j:Nat)
 deriving Repr
inductive F where
 | fail (s:String) (slot:Nat:=0)
 | vc (b:BE) (r:F)
 | fork (c:BE) (t e:F)
 | ret (v:SV) (hp:List Ck)
 | OS (r:F)
 | DN (r:F)
 | TZ (r:F)
 | BA (outer:Bool) (r:F)
 | call (f:Nat) (args:List SV) (use:List Ck) (inc:cG) (val:SV) (new:List Ck) (r:F)
 | ext (f:Nat) (args:List SV) (use:List Ck) (inc:cG) (val:SV) (new:List Ck) (r:F)
 | loop (up:Nat) (inc:cG) (eqs:List eX) (body:F)
 | back (up:Nat) (c0:cG) (inc:cG) (eqs:List eX)
 | join (up:Nat) (inc:cG) (body r:F)
 | meet (up:Nat) (c0:cG) (inc:cG) (eqs:List eX)
 | ghost (use:List Ck) (inc:cG) (eqs:List eX) (new:List Ck) (r:F)
 | both (a b:F)
 deriving Inhabited
def LV:List F→F
 | []=> .fail "none"
 | [x]=>x
 | x::y::r=> .both x (LV (y::r))
def E.sc(c:cG):E→Bool
 | .lit _=>true
 | .var i=>adV i c.i
 | .aO i=>adV i c.a
 | .NV a i=>a.sc c&&i.sc c
 | .bin _ _ a b=>a.sc c&&b.sc c
 | .wrap _ a=>a.sc c
 | .rO a i v=>a.sc c&&i.sc c&&v.sc c
 | .shift a o=>a.sc c&&o.sc c
 | .s7 a o n b=>a.sc c&&o.sc c&&n.sc c&&b.sc c
 | .kc _ a=>a.sc c
 | .ky b=>adV b c.b
 | .oz _=>true
 | .OO a i=>a.sc c&&i.sc c
 | .oR a i s=>a.sc c&&i.sc c&&s.sc c
 | .QN s=>s.sc c
def BE.sc(c:cG):BE→Bool
 | .lit _=>true
 | .var i=>adV i c.bo
 | .eq a b=>a.sc c&&b.sc c
 | .lt a b=>a.sc c&&b.sc c
 | .le a b=>a.sc c&&b.sc c
 | .nz a=>a.sc c
 | .QO _ a b=>a.sc c&&b.sc c
 | .not a=>a.sc c
 | .and a b=>a.sc c&&b.sc c
 | .or a b=>a.sc c&&b.sc c
 | .ite x t e=>x.sc c&&t.sc c&&e.sc c
 | .seq a b=>a.sc c&&b.sc c
def Cut.sc(c:cG)(k:Cut):Bool:=k.lo.sc c&&k.hi.sc c&&(match k.mx with | some m=>m.sc c | none=>true)
mutual
def SV.sc(c:cG):SV→Bool
 | .int _ e=>e.sc c
 | .bool b=>b.sc c
 | .ptr b _=>adV b c.b
 | .oB b i _ _=>adV b c.b&&i.sc c
 | .pv v i _ _=>adV v c.v&&i.sc c
 | .sl b i _ n m=>adV b c.b&&i.sc c&&n.sc c&&m.sc c
 | .vv i=>adV i c.v
 | .fn _ caps=>SV.oE c caps
 | .agg cs=>SV.oE c cs
 | .cD _ _ a=>a.sc c
 | .oJ vs=>SV.oE c vs
 | .opt b v=>b.sc c&&v.sc c
 | .DK _ i=>i.sc c
 | .Jj l=>adV l c.b
 | .mp b=>adV b c.b
 | .jP v cs _=>adV v c.v&&cs.all (Cut.sc c)
 | .nB e=>e.sc c
 | .KN e=>e.sc c
 | .kb e=>e.sc c
 | .F_ b v=>b.sc c&&adV v c.v
 | .Ln _ _ e=>e.sc c
 | _=>true
def SV.oE(c:cG):List SV→Bool
 | []=>true
 | v::r=>v.sc c&&SV.oE c r
end
def CK.sc(c:cG):CK→Bool
 | .qV l=>l.all fun n=>adV n c.v
 | _=>true
def bS.sc(c:cG)(k:bS):Bool:=k.a.sc c&&k.ck.sc c
def Ck.sc(c:cG):Ck→Bool
 | .emp=>true
 | .row b _ cs=>adV b c.b&&SV.oE c cs
 | .bu _ v _ _ n aH=>adV v c.v&&n.sc c&&aH.all (bS.sc c)
 | .abs i=>adV i c.p
 | .kg l r _ _=>adV l c.b&&adV r c.r
 | .JH b=>adV b c.b
 | .qu b=>adV b c.b
 | .map b _ _ _ zero has aH=>adV b c.b&&SV.oE c zero&&has.sc c&&aH.all (bS.sc c)
 | .r8 b _ _ _ zero es=>adV b c.b&&SV.oE c zero&&es.all fun e=>SV.oE c e.2
 | .HO b _ _ n a=>adV b c.b&&n.sc c&&a.sc c
 | .KR b _ _=>adV b c.b
def kF(c:cG)(fr:List (Nat×SV)):Bool:=fr.all fun x=>x.2.sc c
def zD.sc(c:cG):zD→Bool
 | .none=>true
 | .new (.row _ _ cs)=>SV.oE c cs
 | .new (.map _ _ _ _ zero has aH)=>SV.oE c zero&&has.sc c&&aH.all (bS.sc c)
 | .new (.r8 _ _ _ _ zero es)=>SV.oE c zero&&es.all fun e=>SV.oE c e.2
 | .new (.HO _ _ _ n a)=>n.sc c&&a.sc c
 | .new (.KR _ _ _)=>true
 | .set _ ck=>ck.sc c
 | .app _ (.bu _ _ _ _ n aH)=>n.sc c&&aH.all (bS.sc c)
 | .own (.bu _ _ _ _ n aH)=>n.sc c&&aH.all (bS.sc c)
 | .D0 (.bu _ _ _ _ n aH)=>n.sc c&&aH.all (bS.sc c)
 | _=>false
def zD.grow(c:cG):zD→cG
 | .new _=>{c with b:=c.b+1}
 | .app .. =>{c with v:=c.v+1}
 | .own .. =>{c with v:=c.v+1}
 | .D0 .. =>{c with v:=c.v+1}
 | _=>c
def gx.sc(c:cG)(r:gx):Bool:=r.val.sc (r.gg.grow c)&&r.vcs.all (BE.sc c)&&r.gg.sc c
inductive MK where
 | one (b:Nat)
 | many (b:Nat)
 deriving DecidableEq,Repr
def MK.sc(c:cG):MK→Bool
 | .one b=>adV b c.b
 | .many b=>adV b c.b
def kK:List MK→List MK→Option (List eX)
 | [],[]=>some []
 | .one b::r,.one b'::r'=>(kK r r').map (.bl b b':: ·)
 | .many b::r,.many b'::r'=>(kK r r').map (.bl b b':: ·)
 | _,_=>none
structure NT where
 n:Nat:=0
 ds:List MK:=[]
 deriving DecidableEq,Repr,Inhabited
structure St where
 fn:Nat:=0
 fr:List (Nat×SV):=[]
 hp:List Ck:=[]
 aX:cG:={}
 known:List BE:=[]
 nt:NT:={}
 deriving Inhabited
def look(fr:List (Nat×SV))(s:Nat):Option SV:=
 match fr with
 | []=>none
 | (t,v)::r=>if t==s then some v else look r s
def St.put(st:St)(d:Option Nat)(v:SV):St:=
 match d with
 | some d=>{st with fr:=(d,v)::st.fr.filter fun x=> !(x.1==d)}
 | none=>st
structure bq where
 use:List SV→List Ck→List Nat
 inc:cG:={}
 val:cG→SV
 new:cG→List Ck→List Ck
 valOf:Option (List SV→List Ck→SV):=none
def ql(ca:bq)(az:List SV)(hp:List Ck)(c:cG):SV:=
 match ca.valOf with
 | some g=>g az hp
 | none=>ca.val c
inductive qO where
 | slot (s t:Nat)
 | cell (i j t:Nat)
 | cut (s:Nat) (md:Bool)
 | sU (i j:Nat) (md:Bool)
 | marks
 | mark
 | swap (s i:Nat)
 | own (s t:Nat)
structure iW where
 pre:List qO:=[]
 inc:cG:={}
 aV:cG→List (Nat×SV)
 hp:cG→List Ck→List Ck:=fun _ h=>h
 back:List qO:=[]
 ds:cG→List MK→List MK:=fun _ d=>d
structure nm where
 split:Option BE:=none
 pick:Option (List Nat):=none
 use:List Nat:=[]
 inc:cG:={}
 aV:List (Nat×SV):=[]
 new:List Ck:=[]
structure Qt where
 pre:List qO:=[]
 inc:cG:={}
 aV:cG→List (Nat×SV)
 hp:cG→List Ck→List Ck:=fun _ h=>h
 ds:cG→List MK→List MK:=fun _ d=>d
 gh:St→Option nm:=fun _=>none
inductive KI where
 | gh (g:St→Option nm)
 | code (c:Code)
 | ops (all:Array Oper) (rest:List Oper)
 | rl (all:Array Oper) (pm:List Nat) (rest:List Nat) (done:Nat) (log:List (Nat×List Nat))
 | LS (all:Array Oper) (pm:List Nat) (e:Nat) (rest:List Nat) (done:Nat) (log:List (Nat×List Nat)) (fn:Nat) (nt:NT) (fr:List (Nat×SV)) (hp:List Ck) (aX:cG)
 | ky (id:Nat)
 | again (body:Code)
 | loop (up:Nat) (nt:NT) (c0:cG) (inc:cG) (fr:List (Nat×SV)) (hp:List Ck) (bk:List qO)
 | jn (id:Option Nat) (up:Nat) (nt:NT) (c0:cG) (inc:cG) (fr:List (Nat×SV)) (hp:List Ck) (pre:List qO)
 | call (fn:Nat) (nt:NT) (fr:List (Nat×SV)) (dst:Option Nat) (callee:Func)
 | rf (l r:Nat) (fn:Nat) (nt:NT) (fr:List (Nat×SV)) (ps:Array Tmp) (assign body:Code) (callee:Func)
 | begin (l:Nat)
 | round (l:Nat) (fn:Nat) (nt:NT) (fr:List (Nat×SV)) (dst:Option Nat)
 | lf (l:Nat) (j:Jump) (fn:Nat) (nt:NT) (fr:List (Nat×SV)) (dst:Option Nat)
 | top (callee:Func)
 deriving Inhabited
structure VJ where
 val:SV
 vcs:List BE:=[]
 use:List Nat:=[]
 new:List Ck:=[]
structure Ctx where
 T:List TI
 FT:List (Nat×Func)
 calls:Nat→Nat→Option bq:=fun _ _=>none
 loops:Nat→Nat→Option iW:=fun _ _=>none
 Rm:Nat→Nat→Option Qt:=fun _ _=>none
 Np:Nat→Nat→Option (St→Option nm):=fun _ _=>none
 cb:Nat→Option bq:=fun _=>none
 pure:Nat→Option (List SV→List Ck→Option VJ):=fun _=>none
def CO(C:Ctx)(f:Nat)(az:List SV)(hp:List Ck):Option VJ:=
 match C.pure f with
 | some g=>g az hp
 | none=>none
def Rn(C:Ctx)(fn d f:Nat):Option bq:=
 match C.calls fn d with
 | some ca=>some ca
 | none=>C.cb f
def kN:List Cut→List Cut→Option (List eX)
 | [],[]=>some []
 | a::r,b::r'=>
  match a.mx,b.mx,kN r r' with
  | none,none,some x=>some (.e a.lo b.lo:: .e a.hi b.hi::x)
  | some m,some m',some x=>some (.e a.lo b.lo:: .e a.hi b.hi:: .e m m'::x)
  | _,_,_=>none
 | _,_=>none
mutual
def sr:SV→SV→Option (List eX)
 | .int k a,.int k' b=>if k=k' then some [.e a b]else none
 | .bool a,.bool b=>some [.b a b]
 | .iK,.iK=>some []
 | .cC,.cC=>some []
 | .mc,.mc=>some []
 | .rQ,.rQ=>some []
 | .rR,.rR=>some []
 | .undef,.undef=>some []
 | .ptr b c,.ptr b' c'=>if c=c' then some [.bl b b']else none
 | .oB b i s c,.oB b' i' s' c'=>if c=c'∧s=s' then some [.bl b b',.e i i']else none
 | .pv b i s c,.pv b' i' s' c'=>if c=c'∧s=s' then some [.v b b',.e i i']else none
 | .sl b i s n m,.sl b' i' s' n' m'=>if s=s' then some [.bl b b',.e i i',.e n n',.e m m']else none
 | .vv i,.vv j=>some [.v i j]
 | .str l,.str l'=>if l=l' then some []else none
 | .kb s,.kb s'=>some [.af s s']
 | .F_ c v,.F_ c' v'=>some [.b c c',.v v v']
 | .Ln t k e,.Ln t' k' e'=>if t=t'∧k=k' then some [.e e e']else none
 | .kb s,.str l=>some [.af s (zl l)]
 | .fn f cs,.fn f' zh=>if f=f' then fu cs zh else none
 | .agg cs,.agg zh=>fu cs zh
 | .cD k n a,.cD k' n' b=>if k=k'∧n=n' then some [.a (.lit n) a b]else none
 | .oJ cs,.oJ zh=>fu cs zh
 | .opt c v,.opt c' v'=>(sr v v').map (.b c c':: ·)
 | .Jj l,.Jj l'=>some [.bl l l']
 | .mp l,.mp l'=>some [.bl l l']
 | .nB e,.nB e'=>some [.e e e']
 | .nB e,.ptr b o=>if o=0 then some [.e e (.ky b)]else none
 | .nB e,.iK=>some [.e e (.lit 0)]
 | .ptr b o,.nB e=>if o=0 then some [.e (.ky b) e]else none
 | .KN e,.KN e'=>some [.e e e']
 | .KN e,.cC=>some [.e e (.lit 0)]
 | .jP v cs s,.jP v' zh s'=>if s=s' then(kN cs zh).map (.v v v':: ·)else none
 | _,_=>none
def fu:List SV→List SV→Option (List eX)
 | [],[]=>some []
 | a::r,b::r'=>match sr a b,fu r r' with
  | some x,some y=>some (x++y)
  | _,_=>none
 | _,_=>none
end
def ik(n:E):List bS→List bS→Option (List eX)
 | [],[]=>some []
 | a::r,b::r'=>
  match a.ck,b.ck with
  | .qV l,.qV l'=>if l.length=l'.length∧a.w=b.w then(ik n r r').map ((l.zip l').map (fun x=>eX.v x.1 x.2)++ ·)else none
  | _,_=>if a.ck=b.ck∧a.w=b.w then(ik n r r').map ((if a.ck= .str then .af a.a b.a else .a (oU n (.lit a.w)) a.a b.a):: ·)
   else if a.ck= .cv∧b.ck= .cC∧a.w=b.w then(ik n r r').map (.a (oU n (.lit a.w)) a.a (.lit 0):: ·)else none
 | _,_=>none
def jC:List bS→List bS→Option (List eX)
 | [],[]=>some []
 | a::r,b::r'=>
  match a.ck with
  | .qV _=>none
  | _=>if a.ck=b.ck∧a.w=b.w then(jC r r').map (.af a.a b.a:: ·)else none
 | _,_=>none
def rj:Nat→List SV→List SV→List SV
 | 0,_,act=>act
 | f+1,.int _ _::p,.cD k (m+1) a::r=> .int k (fP a (.lit 0))::rj f p (if m=0 then r else .cD k m (jt a (.lit 1))::r)
 | f+1,.cD k n _::p,x::r=>
  if SV.width x=n then x::rj f p r else
  match iP 0 n (x::r),eM n (x::r)with
  | some c,some d=>
   match rowOf c with
   | some (kl,e)=>if kl=List.replicate n k then .cD k n e::rj f p d else x::r
   | none=>x::r
  | _,_=>x::r
 | f+1,_::p,x::r=>x::rj f p r
 | _+1,_,act=>act
def p_:List (Nat×List SV)→List (Nat×List SV)→Option (List eX)
 | [],[]=>some []
 | (i,v)::r,(j,u)::r'=>if i=j then(match fu v u,p_ r r' with
  | some x,some y=>some (x++y)
  | _,_=>none)else none
 | _,_=>none
def wA:Ck→Ck→Option (List eX)
 | .emp,.emp=>some []
 | .row b w cs,.row b' w' zh=>if w=w' then(fu cs (rj 200 cs zh)).map (.bl b b':: ·)else none
 | .bu md v t s n aH,.bu md' v' t' s' n' aT=>if md=md'∧t=t'∧s=s' then(ik n aH aT).map fun r=> .v v v':: .e n n'::r else none
 | .abs i,.abs j=>some [.p i j]
 | .kg l r s j,.kg l' r' s' j'=>if s=s'∧j=j' then some [.bl l l',.rc r r']else none
 | .JH b,.JH b'=>some [.bl b b']
 | .qu b,.qu b'=>some [.bl b b']
 | .map b kl ka va z has aH,.map b' KS Yv Yw z' Gs aT=>
  if kl=KS∧ka=Yv∧va=Yw then
   match fu z z',jC aH aT with
   | some x,some y=>some (.bl b b':: .af has Gs::(x++y))
   | _,_=>none
  else none
 | .r8 b kl ka va z es,.r8 b' KS Yv Yw z' Ut=>
  if kl=KS∧ka=Yv∧va=Yw then
   match fu z z',p_ es Ut with
   | some x,some y=>some (.bl b b'::(x++y))
   | _,_=>none
  else none
 | .HO b t e n a,.HO b' t' e' n' a'=>if t=t'∧e=e' then some [.bl b b',.e n n',.a n a a']else none
 | .KR b l p,.KR b' l' p'=>if l=l'∧p=p' then some [.bl b b']else none
 | _,_=>none
def lP:List Ck→List Ck→Option (List eX)
 | [],_=>some []
 | a::r,b::r'=>match wA a b,lP r r' with
  | some x,some y=>some (x++y)
  | _,_=>none
 | _::_,[]=>none
def lO(pat act:List (Nat×SV)):Option (List eX):=
 match pat with
 | []=>some []
 | (s,v)::r=>match look act s,lO r act with
  | some v',some y=>(sr v v').map (· ++y)
  | _,_=>none
def eX.trivial(c:cG):eX→Bool
 | .e x y=>x==y&&x.sc c
 | .a n x y=>x==y&&x.sc c&&n.sc c
 | .b x y=>x==y&&x.sc c
 | .af x y=>x==y&&x.sc c
 | .v i j=>i==j&&adV i c.v
 | .p i j=>i==j&&adV i c.p
 | .bl i j=>i==j&&adV i c.b
 | .rc i j=>i==j&&adV i c.r
def writes:Code→List Nat
 | .region _ ops _=>ops.toList.filterMap (·.dst)
 | .seq a b=>writes a++writes b
 | .cond _ a b=>writes a++writes b
 | .block _ b=>writes b
 | .loop b=>writes b
 | .scope b=>writes b
 | .rangeFunc _ ps a b=>ps.toList++writes a++writes b
 | _=>[]
def cS(id:Nat):List KI→Option (List KI)
 | .ky i::k=>if i==id then some k else cS id k
 | .again _::k=>cS id k
 | .code _::k=>cS id k
 | .ops .. ::k=>cS id k
 | .loop .. ::k=>cS id k
 | .gh _::k=>cS id k
 | .jn i up nt c0 inc fr hp pre::k=>if i==some id then some (.jn i up nt c0 inc fr hp pre::k)else cS id k
 | .round l fn nt fr d::k=>some (.lf l (.exit id) fn nt fr d::k)
 | _=>none
def fH:List KI→Option (List KI)
 | .call fn nt fr d f::k=>some (.call fn nt fr d f::k)
 | .top f::k=>some (.top f::k)
 | .rf l r fn nt fr ps x y f::k=>some (.rf l r fn nt fr ps x y f::k)
 | .round l fn nt fr d::k=>some (.lf l .ret fn nt fr d::k)
 | .ky _::k=>fH k
 | .again _::k=>fH k
 | .code _::k=>fH k
 | .ops .. ::k=>fH k
 | .loop .. ::k=>fH k
 | .jn .. ::k=>fH k
 | .gh _::k=>fH k
 | _=>none
def yT:List KI→Option Nat
 | []=>none
 | .call .. ::_=>none
 | .top _::_=>none
 | .rf .. ::_=>none
 | .begin l::_=>some l
 | .round l .. ::_=>some l
 | _::k=>yT k
def nl:List KI→Nat
 | []=>0
 | .loop .. ::k=>nl k+1
 | .jn .. ::k=>nl k+1
 | _::k=>nl k
def CP(T:List TI)(st:St):ResultVar→Option SV
 | .tmp t=>look st.fr t
 | .cell a t=>match aU T t,look st.fr a with
  | some ti,some x=>match wu st.hp ti.k.agg ti.size x with
   | some r=>if r.vcs.isEmpty then some r.val else none
   | none=>none
  | _,_=>none
def yU(T:List TI)(st:St)(fn:Func):Option SV:=
 match iS (fn.results.toList.map (CP T st))with
 | some [v]=>some v
 | some vs=>some (.oJ vs)
 | none=>none
def Nq:Env:={}
def BE.sure(b:BE):Bool:=b.sc {}&&b.den Nq
def more(vcs known:List BE):List BE:=vcs.filter (fun b=> !b.sure)++known
def TJ(g:Option BE)(b:BE):BE:=
 match g with
 | some c=>Wh (iO c) b
 | none=>b
def pN(g:Option BE):List BE→List BE→F→F
 | [],_,r=>r
 | b::bs,known,r=>if TJ g b== .lit true||known.contains (TJ g b)||(TJ g b).sure then pN g bs known r else .vc (TJ g b) (pN g bs known r)
def mv(ρ:Env):Option BE→Bool
 | some c=>c.den ρ
 | none=>true
def guardOf(all:Array Oper)(fr:List (Nat×SV))(o:Oper):Option (Option BE):=
 match o.guard with
 | none=>some none
 | some (j,want)=>
  match all[j]? with
  | some oj=>match oj.dst with
   | some d=>match look fr d with
    | some (.bool b)=>some (some (if want then b else iO b))
    | some (.opt c (.bool b))=>some (some (zm c (if want then b else iO b)))
    | some .undef=>some (some (.lit false))
    | some (.opt _ .undef)=>some (some (.lit false))
    | _=>none
   | none=>none
  | none=>none
def cR(st:St)(e:zD):St:=
 match e with
 | .none=>st
 | .new ck=>{st with hp:=st.hp++[ck],aX:={st.aX with b:=st.aX.b+1}}
 | .set i ck=>{st with hp:=st.hp.set i ck}
 | .app i ck=>{st with hp:=st.hp.set i ck,aX:={st.aX with v:=st.aX.v+1}}
 | .own ck=>{st with hp:=st.hp++[ck],aX:={st.aX with v:=st.aX.v+1}}
 | .D0 ck=>{st with hp:=st.hp++[ck],aX:={st.aX with v:=st.aX.v+1}}
def jY{α:Type}(e:α)(hp:List α):List Nat→List α→List α
 | i::r,c::cs=>jY e (hp.set i c) r cs
 | i::r,[]=>jY e (hp.set i e) r []
 | [],cs=>hp++cs
def eP(hp:List Ck)(use:List Nat)(new:List Ck):List Ck:=jY .emp hp use new
def IQ(T:List TI)(st:St)(t:Nat):Option St:=
 match aU T t,ui T 30 t with
 | some ti,some aH=>if aH.all (bS.sc st.aX)then some {st with hp:=st.hp++[.bu true st.aX.v t ti.size (.lit 0) aH],aX:={st.aX with v:=st.aX.v+1}}else none
 | _,_=>none
inductive yV where
 | nil
 | cut (vcs:List BE)
 | ky
 | same
def yW(st:St)(x:SV)(md:Bool):Option (St×yV):=
 match eZ st.hp x with
 | some r=>
  match gD r.p.lo r.aH with
  | some aH=>
   if r.s=bT r.aH∧(md=true→r.md=true)∧r.p.len.sc st.aX=true∧aH.all (bS.sc st.aX)=true then
    some ({st with hp:=st.hp.set r.j (.bu md st.aX.v r.t r.s r.p.len aH),aX:={st.aX with v:=st.aX.v+1}},.cut (r.vcs++dA (.lit 0) r.p.len))
   else none
  | none=>none
 | none=>none
def Nr(st:St)(x:SV)(t:Nat):Option (St×yV):=
 match x with
 | .sl b i s n m=>
  match findAt st.hp b,eA i,eA n with
  | some (j,.row _ true cs),some 0,some q=>
   match rowOf cs with
   | some (ki::kl,a)=>
    if n=m∧s=1∧kl.length+1=q∧ki::kl=List.replicate q ki∧q≤140737488355328∧a.sc st.aX=true then
     some ({st with hp:=st.hp.set j (.bu true st.aX.v t 1 (.lit (q:Int)) [⟨.int ki,1,a⟩]),aX:={st.aX with v:=st.aX.v+1}},.cut [])
    else none
   | _=>none
  | _,_,_=>none
 | _=>none
def Ck.Ba(b:Nat):Ck→Bool
 | .JH b'=>b==b'
 | _=>false
def Ck.uq(b:Nat):Ck→Bool
 | .qu b'=>b==b'
 | _=>false
def swapAt(hp:List Ck)(i j:Nat):List Ck:=
 match hp[i]?,hp[j]? with
 | some d,some c=>(hp.set i c).set j d
 | _,_=>hp
def Tf(st:St)(s:Nat):Option Nat:=
 match look st.fr s with
 | some (.ptr b _)=>(findAt st.hp b).map (·.1)
 | some (.vv v)=>(dH st.hp v).map (·.1)
 | some (.sl b _ _ _ _)=>(findAt st.hp b).map (·.1)
 | _=>none
def dy(T:List TI)(st:St)(x:qO):Option (St×yV):=
 match x with
 | .slot s t=>match look st.fr s with
  | some .cC=>(IQ T st t).map fun cT=>(cT.put (some s) (.vv st.aX.v),.nil)
  | _=>none
 | .cell i j t=>match st.hp[i]? with
  | some (.row b w cs)=>match cs[j]? with
   | some .cC=>(IQ T st t).map fun cT=>({cT with hp:=cT.hp.set i (.row b w (cs.set j (.vv st.aX.v)))},.nil)
   | _=>none
  | _=>none
 | .cut s md=>match look st.fr s with
  | some x=>(yW st x md).map fun y=>(y.1.put (some s) (.vv st.aX.v),y.2)
  | none=>none
 | .sU i j md=>match st.hp[i]? with
  | some (.row b w cs)=>match cs[j]? with
   | some x=>match yW st x md with
    | some (cT,wr)=>match cT.hp[i]? with
     | some (.row b' w' _)=>if b'=b∧w'=w then some ({cT with hp:=cT.hp.set i (.row b w (cs.set j (.vv st.aX.v)))},wr)else none
     | _=>none
    | none=>none
   | none=>none
  | _=>none
 | .marks=>some ({st with nt:={st.nt with ds:= .many st.aX.b::st.nt.ds},hp:=st.hp++[.qu st.aX.b],aX:={st.aX with b:=st.aX.b+1}},.ky)
 | .mark=>match st.nt.ds with
  | .one b:: .many c::ds=>match st.hp.findIdx? (Ck.Ba b),st.hp.findIdx? (Ck.uq c)with
   | some i,some j=>some ({st with nt:={st.nt with ds:= .many st.aX.b::ds},hp:=(st.hp.set i .emp).set j (.qu st.aX.b),aX:={st.aX with b:=st.aX.b+1}},.ky)
   | _,_=>none
  | .many _::_=>some (st,.same)
  | _=>none
 | .own s t=>match look st.fr s with
  | some x=>(Nr st x t).map fun y=>(y.1.put (some s) (.vv st.aX.v),y.2)
  | none=>none
 | .swap s i=>match Tf st s with
  | some j=>some ({st with hp:=swapAt st.hp i j},.same)
  | none=>none
def rF(T:List TI):St→List qO→Option (St×List yV)
 | st,[]=>some (st,[])
 | st,x::r=>match dy T st x with
  | some (cT,y)=>match rF T cT r with
   | some (s2,k)=>some (s2,y::k)
   | none=>none
  | none=>none
def Yx:List BE→F→F
 | [],f=>f
 | b::r,f=> .vc b (Yx r f)
def fj:List yV→F→F
 | [],f=>f
 | .nil::r,f=> .TZ (fj r f)
 | .ky::r,f=> .OS (fj r f)
 | .same::r,f=>fj r f
 | .cut vcs::r,f=>Yx vcs (.DN (fj r f))
def yX(look:Nat→Option SV)(o:Oper):Option (Nat×List SV):=
 match o.op with
 | .call {callee:= .value f,args,.. }=>
  match hZ look f,iS (args.toList.map (hZ look))with
  | some (.fn f caps),some az=>some (f,az++caps)
  | _,_=>none
 | _=>none
def dM(n:Nat):List SV→List (Nat×SV)
 | []=>[]
 | v::r=>(n,v)::dM (n+1) r
def qm(known:List BE)(b:BE):BE:=
 match b with
 | .lit x=> .lit x
 | b=>if b.sc {}then .lit (b.den Nq)else if known.contains b then .lit true else if known.contains (iO b)then .lit false else b
def SV.Ho(c:BE):SV→SV
 | .opt c' v=>
  if c'=c then v else
  match c' with
  | .and a b=>if a=c then .opt b v else .opt (.and a b) v
  | c'=> .opt c' v
 | .bool b=>if b=c then .bool (.lit true)else .bool b
 | v=>v
def SV.qw(c:BE):SV→SV
 | .opt c' v=>
  if c'=c then .undef else
  match c' with
  | .and a b=>if a=c then .undef else .opt (.and a b) v
  | c'=> .opt c' v
 | .bool b=>if b=c then .bool (.lit false)else .bool b
 | v=>v
def St.Ho(c:BE)(st:St):St:={st with fr:=st.fr.map fun x=>(x.1,x.2.Ho c),known:=c::st.known}
def St.qw(c:BE)(st:St):St:={st with fr:=st.fr.map fun x=>(x.1,x.2.qw c),known:=iO c::st.known}
def under(c:BE)(lk:Nat→Option SV)(s:Nat):Option SV:=
 match lk s with
 | some (.opt c' v)=>
  if c'=c then some v else
  match c' with
  | .and a b=>if a=c then some (.opt b v)else some (.opt (.and a b) v)
  | c'=>some (.opt c' v)
 | x=>x
def Hp(fr:List (Nat×SV))(known:List BE)(x:Operand):Option BE:=
 match hZ (look fr) x with
 | some (.bool b)=>some (qm known b)
 | _=>none
def qb(all:Array Oper)(fr:List (Nat×SV))(known:List BE)(o:Oper):Option (Option BE):=
 match guardOf all fr o with
 | some (some b)=>match qm known b with
  | .lit true=>some none
  | b=>some (some b)
 | x=>x
def SV.fix(known:List BE):SV→SV
 | .opt c v=>match qm known c with
  | .lit true=>v
  | .lit false=> .undef
  | _=> .opt c v
 | .bool b=> .bool (qm known b)
 | v=>v
def SV.Tg(c:BE)(known:List BE):SV→SV
 | .bool b=>if known.contains (iO (zm c b))then .bool (.lit false)else .bool b
 | .opt b v=>if known.contains (iO (zm c b))then .undef else .opt b v
 | v=>v
def Ax(g:Option BE)(known:List BE)(fr:List (Nat×SV))(s:Nat):Option SV:=
 match g with
 | some c=>(under c (look fr) s).map fun v=>(v.fix known).Tg c known
 | none=>(look fr s).map (SV.fix known)
def Op.quiet:Op→Bool
 | .move _ | .assign _ | .pick .. | .build .. | .load .. | .nilCheck _ | .binOp .. | .unOp .. | .sliceToArrayPointer .. | .fieldAddr .. | .field .. | .indexAddr .. | .index .. | .extract .. | .makeFunc .. | .makeInterface .. | .slice .. | .lookup .. =>true
 | .convert a b _=> !(a==b)
 | .call {callee:= .builtin .len,.. }=>true
 | .call {callee:= .builtin .max,.. }=>true
 | .call {callee:= .builtin .min,.. }=>true
 | _=>false
def ln(all:Array Oper)(done:Nat)(i:Nat):Bool:=
 match all[i]? with
 | some o=>o.after.toList.all fun e=> !aeg .any e||done.testBit e.on
 | none=>false
def Ns(all:Array Oper):List Nat→List Nat→List Nat
 | [],acc=>acc
 | i::r,acc=>
  match all[i]? with
  | some o=>Ns all r (acc++[o.after.toList.foldl (fun s e=>if aeg .any e&&adV e.on i then s|||(1 <<< e.on)|||acc.getD e.on 0 else s) 0])
  | none=>acc
def slotsOf(all:Array Oper)(o:Oper):List Nat:=
 o.op.operands.toList.filterMap (fun | .tmp t=>some t | _=>none)++
  (match o.guard with | some (j,_)=>(match all[j]? with | some oj=>oj.dst.toList | none=>[]) | none=>[])
def j1(all:Array Oper)(pm:List Nat):Bool:=
 (List.range all.size).all fun i=>
  match all[i]? with
  | some oi=>
   match oi.dst with
   | some d=>
    (List.range all.size).all fun j=>
     match all[j]? with
     | some oj=>i==j|| !((slotsOf all oj).contains d||oj.dst==some d)||(pm.getD j 0).testBit i||(pm.getD i 0).testBit j
     | none=>true
   | none=>true
  | none=>true
def xZ(all:Array Oper)(pm:List Nat):Bool:=
 (List.range all.size).all fun p=>
  match all[p]? with
  | some o=>
   (o.after.toList.all fun e=> !aeg .any e||adV e.on p)&&
   ((List.range all.size).all fun q=> !(pm.getD p 0).testBit q||o.after.toList.any fun e=>aeg .any e&&(q==e.on||(pm.getD e.on 0).testBit q))
  | none=>true
def B7(all:Array Oper)(i:Nat):Bool:=
 match all[i]? with
 | some o=>Op.quiet o.op
 | none=>false
def restrict(fr:List (Nat×SV))(aV:List Nat):List (Nat×SV):=fr.filter fun x=>aV.contains x.1
def kept(c:cG)(hp kM:List Ck)(rd:List Nat):Bool:=
 rd.all fun j=>
  match hp[j]?,kM[j]? with
  | some a,some b=>(match wA a b with | some l=>l.all (eX.trivial c) | none=>false)
  | none,_=>true
  | _,_=>false
def eT(st:St)(fn:Nat)(nt:NT)(fr:List (Nat×SV)):St:={st with fn:=fn,nt:=nt,fr:=fr}
def pj(st:St)(d:Option Nat):Bool:=
 match d with
 | some d=>adV d st.nt.n
 | none=>true
def nS(C:Ctx)(g:Option BE)(st:St)(o:Oper):Option gx:=
 match dh C.T (Ax g st.known st.fr) st.hp st.aX.b st.aX.v o with
 | some res=>if res.sc st.aX then some res else none
 | none=>none
def Ec(C:Ctx)(g:Option BE)(st:St)(o:Oper):Option gx:=
 match g with
 | some (.lit false)=>some {val:= .undef}
 | g=>nS C g st o
def Zp(c:cG):Option BE→Bool
 | some b=>b.sc c
 | none=>true
def JO:Option BE→SV→SV
 | some c,v=> .opt c v
 | none,v=>v
def BY:Option BE→List BE→List BE→List BE
 | some _,_,k=>k
 | none,vcs,k=>more vcs k
def leave:List Ck→List MK→Option (List Ck)
 | hp,[]=>some hp
 | hp,.one d::ds=>
  match hp.findIdx? (Ck.Ba d)with
  | some i=>leave (hp.set i .emp) ds
  | none=>none
 | hp,.many d::ds=>
  match hp.findIdx? (Ck.uq d)with
  | some i=>leave (hp.set i .emp) ds
  | none=>none
def lR(st:St):Option St:=(leave st.hp st.nt.ds).map fun hp=>{st with hp:=hp}
def qn(l:Nat):List KI→Option (Nat×Nat×NT×List (Nat×SV)×Array Tmp×Code×Code)
 | []=>none
 | .rf l' r fn nt fr ps x y _::k=>if l'==l then some (r,fn,nt,fr,ps,x,y)else qn l k
 | _::k=>qn l k
def Ck.isRec(l:Nat):Ck→Bool
 | .kg l' _ _ _=>l==l'
 | _=>false
def recAt(hp:List Ck)(l:Nat):Option (Nat×Nat×RS×Jump):=
 match hp.findIdx? (Ck.isRec l)with
 | some i=>
  match hp[i]? with
  | some (.kg _ r s j)=>some (i,r,s,j)
  | _=>none
 | none=>none
def ko(st:St):List (Nat×SV)→Option St
 | []=>some st
 | (d,v)::r=>if pj st (some d)&&v.sc st.aX then ko (st.put (some d) v) r else none
def Nt(look:Nat→Option SV)(o:Oper):Option (Nat×List SV):=
 match o.op with
 | .call {callee:= .value f,args,.. }=>
  match hZ look f,iS (args.toList.map (hZ look))with
  | some (.Jj l),some az=>some (l,az)
  | _,_=>none
 | _=>none
def run(C:Ctx):Nat→List KI→St→F
 | 0,_,_=> .fail "fuel"
 | _+1,[],_=> .fail "end"
 | n+1,.ky _::k,st=>run C n k st
 | n+1,.gh g::k,st=>
  match g st with
  | none=>run C n k st
  | some s=>
   match s.split with
   | some b=>if b.sc st.aX then .fork b (run C n (.gh g::k) {st with known:=b::st.known}) (run C n (.gh g::k) {st with known:=iO b::st.known})else .fail "scope"
   | none=>
   match s.pick with
   | some idx=>if idx.all (fun i=>adV i st.hp.length)&&decide idx.Nodup then run C n k {st with hp:=idx.map fun i=>st.hp.getD i .emp}else .fail "pick"
   | none=>
   let lF:=st.aX.add s.inc
   match lO s.aV st.fr with
   | some eqs=>
    if kF lF s.aV&&s.new.all (Ck.sc lF)&&s.use.all (fun i=>adV i st.hp.length)&&decide s.use.Nodup then
     .ghost (s.use.map fun i=>st.hp.getD i .emp) s.inc eqs s.new (run C n k {st with fr:=s.aV++st.fr.filter (fun x=> !(s.aV.any fun y=>y.1==x.1)),hp:=eP st.hp s.use s.new,aX:=lF})
    else .fail "scope"
   | none=> .fail "ghost"
 | n+1,.again body::k,st=>run C n (.code body:: .again body::k) st
 | _+1,.loop up nt c0 inc fr hp bk::_,st=>
  match rF C.T st bk with
  | none=> .fail "nil back"
  | some (st,nn)=>
  fj nn <|
  match lO fr st.fr,lP hp st.hp,kK nt.ds st.nt.ds with
  | some a,some b,some d=>if st.nt.n != nt.n then .fail "frame" else .back up c0 inc ((a++b++d).filter fun q=> !q.trivial c0)
  | _,_,none=> .fail "marks"
  | _,_,_=> .fail "back"
 | _+1,.jn _ up nt c0 inc fr hp pre::_,st=>
  match rF C.T st pre with
  | none=> .fail "nil join"
  | some (st,nn)=>
  fj nn <|
  match lO fr st.fr,lP hp st.hp,kK nt.ds st.nt.ds with
  | some a,some b,some d=>if st.nt.n != nt.n then .fail "frame" else .meet up c0 inc ((a++b++d).filter fun q=> !q.trivial c0)
  | _,_,none=> .fail "join marks"
  | none,_,_=> .fail "join slots"
  | _,_,_=> .fail "join"
 | n+1,.call fn nt fr d f::k,st=>
  match lR st with
  | some st=>
   match yU C.T st f with
   | some v=>if pj (eT st fn nt fr) d&&v.sc st.aX then run C n k ((eT st fn nt fr).put d v)else .fail "destination"
   | none=> .fail "results"
  | none=> .fail "marks"
 | _+1,.top f::_,st=>
  match lR st with
  | some st=>
   match yU C.T st f with
   | some v=> .ret v st.hp
   | none=> .fail "results"
  | none=> .fail "marks"
 | n+1,.code c::k,st=>
  match c with
  | .skip=>run C n k st
  | .label _=>run C n k st
  | .seq a b=>run C n (.code a:: .code b::k) st
  | .cond x t e=>
   match Hp st.fr st.known x with
   | some (.lit true)=>run C n (.code t::k) st
   | some (.lit false)=>run C n (.code e::k) st
   | some b=>if b.sc st.aX then .fork b (run C n (.code t::k) {st with known:=b::st.known}) (run C n (.code e::k) {st with known:=iO b::st.known})else .fail "scope"
   | none=> .fail "cond"
  | .block id b=>
   match C.Rm st.fn id with
   | none=>run C n (.code b:: .ky id::k) st
   | some ja=>
    let ws:=writes b
    let aV:=ja.aV st.aX
    let FQ:=aV++st.fr.filter fun x=> !(ws.contains x.1)&& !(aV.any fun y=>y.1==x.1)
    let kM:=ja.hp st.aX st.hp
    let lF:=st.aX.add ja.inc
    let wL:NT:={st.nt with ds:=ja.ds st.aX st.nt.ds}
    if kF lF aV&&kM.all (Ck.sc lF)&&aV.all (fun x=>adV x.1 st.nt.n)&&wL.ds.all (MK.sc lF)then
     .join (nl k) ja.inc (run C n (.code b:: .jn (some id) (nl k) wL st.aX ja.inc FQ kM ja.pre::k) st) (run C n k {st with fr:=FQ,hp:=kM,aX:=lF,known:=[],nt:=wL})
    else .fail "scope"
  | .loop body=>
   match k with
   | .ky id::_=>
    match C.loops st.fn id with
    | none=>run C n (.code body:: .again body::k) st
    | some la=>
     match rF C.T st la.pre with
     | none=> .fail "nil" id
     | some (st,nn)=>
     fj nn <|
     let ws:=writes body
     let aV:=la.aV st.aX
     let FQ:=aV++st.fr.filter fun x=> !(ws.contains x.1)&& !(aV.any fun y=>y.1==x.1)
     let kM:=la.hp st.aX st.hp
     let lF:=st.aX.add la.inc
     let wL:NT:={st.nt with ds:=la.ds st.aX st.nt.ds}
     match lO aV st.fr,lP kM st.hp,kK wL.ds st.nt.ds with
     | some a,some b,some d=>
      if kF lF aV&&kM.all (Ck.sc lF)&&aV.all (fun x=>adV x.1 st.nt.n)&&wL.ds.all (MK.sc lF)then
       .loop (nl k) la.inc ((a++b++d).filter fun q=> !q.trivial st.aX)
        (run C n (.code body:: .loop (nl k) wL st.aX la.inc FQ kM la.back::k) {st with fr:=FQ,hp:=kM,aX:=lF,known:=[],nt:=wL})
      else .fail "scope"
     | _,_,_=> .fail "loop entry" id
   | _=>run C n (.code body:: .again body::k) st
  | .exit id=>match cS id k with
   | some k'=>run C n k' st
   | none=> .fail "exit" id
  | .ret=>match fH k with
   | some k'=>run C n k' st
   | none=> .fail "ret"
  | .region id ops false=>
   match C.Np st.fn id with
   | none=>run C n (.ops ops ops.toList::k) st
   | some g=>run C n (.ops ops ops.toList:: .gh g::k) st
  | .region id ops true=>
   let pm:=Ns ops (List.range ops.size) []
   if j1 ops pm&&xZ ops pm then
    match C.Rm st.fn (id+100000)with
    | some ja=>
     let aV:=ja.aV st.aX
     let FQ:=aV++st.fr.filter fun x=> !((writes (.region id ops true)).contains x.1)&& !(aV.any fun y=>y.1==x.1)
     let kM:=ja.hp st.aX st.hp
     let lF:=st.aX.add ja.inc
     let wL:NT:={st.nt with ds:=ja.ds st.aX st.nt.ds}
     if kF lF aV&&kM.all (Ck.sc lF)&&aV.all (fun x=>adV x.1 st.nt.n)&&wL.ds.all (MK.sc lF)then
      .join (nl k) ja.inc (run C n (.rl ops pm (List.range ops.size) 0 []:: .gh ja.gh:: .jn none (nl k) wL st.aX ja.inc FQ kM ja.pre::k) st) (run C n k {st with fr:=FQ,hp:=kM,aX:=lF,known:=[],nt:=wL})
     else .fail "scope"
    | none=>
    match C.Np st.fn id with
    | none=>run C n (.rl ops pm (List.range ops.size) 0 []::k) st
    | some g=>run C n (.rl ops pm (List.range ops.size) 0 []:: .gh g::k) st
   else .fail "order"
  | .rangeFunc g ps x y=>
   match hZ (look st.fr) g with
   | some (.fn f caps)=>
    match C.FT.find? fun x=>x.1==f with
    | none=> .fail "call" f
    | some (_,fd)=>
     match fd.body with
     | none=> .fail "no body" f
     | some c=>
      if SV.oE st.aX caps then
       match yT k with
       | none=>
        .BA true (run C n (.code c:: .rf (st.aX.b+1) st.aX.r st.fn ⟨st.nt.n,.one st.aX.b::st.nt.ds⟩ st.fr ps x y fd::k)
         (eT {st with hp:=st.hp++[.JH st.aX.b]++[.kg (st.aX.b+1) st.aX.r .ready .none],aX:={st.aX with b:=st.aX.b+2,r:=st.aX.r+1}} f ⟨fd.ntmps,[]⟩ (dM 0 (.Jj (st.aX.b+1)::caps))))
       | some l0=>
        match recAt st.hp l0 with
        | some _=>
         .BA false (run C n (.code c:: .rf st.aX.b st.aX.r st.fn st.nt st.fr ps x y fd::k)
          (eT {st with hp:=st.hp++[.kg st.aX.b st.aX.r .ready .none],aX:={st.aX with b:=st.aX.b+1,r:=st.aX.r+1}} f ⟨fd.ntmps,[]⟩ (dM 0 (.Jj st.aX.b::caps))))
        | none=> .fail "round"
      else .fail "scope"
   | _=> .fail "range over what"
  | _=> .fail "code"
 | n+1,.ops _ []::k,st=>run C n k st
 | n+1,.ops all (o::rest)::k,st=>
  if pj st o.dst then
  match qb all st.fr st.known o with
  | none=> .fail "guard" (st.fn*1000+o.dst.getD 0)
  | some (some (.lit false))=>run C n (.ops all rest::k) (st.put o.dst .undef)
  | some (some c)=>
   if c.sc st.aX then
    match nS C (some c) st o with
    | some res=>
     match res.gg with
     | .none=>pN (some c) res.vcs st.known (run C n (.ops all rest::k) (st.put o.dst (.opt c res.val)))
     | _=> .fork c (run C n (.ops all ({o with guard:=none}::rest)::k) (st.Ho c)) (run C n (.ops all rest::k) ((st.qw c).put o.dst .undef))
    | none=> .fork c (run C n (.ops all ({o with guard:=none}::rest)::k) (st.Ho c)) (run C n (.ops all rest::k) ((st.qw c).put o.dst .undef))
   else .fail "scope"
  | some none=>
   match nS C none st o with
   | some res=>
    let nx:=run C n (.ops all rest::k) (({cR st res.gg with known:=more res.vcs st.known}).put o.dst res.val)
    pN none res.vcs st.known (match res.gg with | .new _=> .OS nx | .app .. => .DN nx | .own .. => .DN nx | .D0 .. => .DN nx | _=>nx)
   | none=>
    match yX (look st.fr) o with
    | some (f,az)=>
     match C.FT.find? fun x=>x.1==f with
     | none=> .fail "call" f
     | some (_,fd)=>
      match fd.body with
      | none=>
       match Rn C st.fn (o.dst.getD 0) f with
       | some ca=>
        if(ql ca az st.hp st.aX).sc (st.aX.add ca.inc)&&(ca.new st.aX ((ca.use az st.hp).map fun i=>st.hp.getD i .emp)).all (Ck.sc (st.aX.add ca.inc))&&(ca.use az st.hp).all (fun i=>adV i st.hp.length)&&decide (ca.use az st.hp).Nodup then
         .ext f az ((ca.use az st.hp).map fun i=>st.hp.getD i .emp) ca.inc (ql ca az st.hp st.aX) (ca.new st.aX ((ca.use az st.hp).map fun i=>st.hp.getD i .emp))
          (run C n (.ops all rest::k) ({st with hp:=eP st.hp (ca.use az st.hp) (ca.new st.aX ((ca.use az st.hp).map fun i=>st.hp.getD i .emp)),aX:=st.aX.add ca.inc}.put o.dst (ql ca az st.hp st.aX)))
        else .fail "scope"
       | none=> .fail "no body" f
      | some c=>
       match CO C f az st.hp with
       | some r=>
        if r.val.sc st.aX&&r.new.all (Ck.sc st.aX)&&r.use.all (fun i=>adV i st.hp.length)&&decide r.use.Nodup then
         pN none r.vcs st.known (run C n (.ops all rest::k) ({st with hp:=eP st.hp r.use r.new}.put o.dst r.val))
        else .fail "scope"
       | none=>
       match Rn C st.fn (o.dst.getD 0) f with
       | some ca=>
        let use:=ca.use az st.hp
        let new:=ca.new st.aX (use.map fun i=>st.hp.getD i .emp)
        let v:=ql ca az st.hp st.aX
        let lF:=st.aX.add ca.inc
        if v.sc lF&&new.all (Ck.sc lF)&&use.all (fun i=>adV i st.hp.length)&&decide use.Nodup then
         .call f az (use.map fun i=>st.hp.getD i .emp) ca.inc v new (run C n (.ops all rest::k) ({st with hp:=eP st.hp use new,aX:=lF}.put o.dst v))
        else .fail "scope"
       | none=>
        if SV.oE st.aX az then run C n (.code c:: .call st.fn st.nt st.fr o.dst fd:: .ops all rest::k) (eT st f ⟨fd.ntmps,[]⟩ (dM 0 az))else .fail "scope"
    | none=>
    match Nt (look st.fr) o with
    | some (l,az)=>
     match qn l k,recAt st.hp l with
     | some (r,fn,nt,fr,ps,x,y),some (_,r',_,_)=>
      if r=r'&&az.length==ps.size then
       match ko (eT st fn ⟨nt.n,[]⟩ fr) (ps.toList.zip az)with
       | some kL=>run C n (.code x:: .begin l:: .code y:: .round l st.fn st.nt st.fr o.dst:: .ops all rest::k) kL
       | none=> .fail "slot"
      else .fail "yield"
     | _,_=> .fail "yield"
    | none=> .fail "op" (st.fn*1000+o.dst.getD 0)
  else .fail "slot"
 | n+1,.rf l _ fn nt fr _ _ _ fd::k,st=>
  match lR st with
  | some st=>
   match yU C.T st fd,recAt st.hp l with
   | some _,some (i,r,s,j)=>
    if s= .busy then .fail "busy" else
    match j with
    | .none=>run C n k (eT {st with hp:=st.hp.set i (.kg l r .exhausted j)} fn nt fr)
    | .ret=>run C n (.code .ret::k) (eT {st with hp:=st.hp.set i (.kg l r .exhausted j)} fn nt fr)
    | .exit id=>run C n (.code (.exit id)::k) (eT {st with hp:=st.hp.set i (.kg l r .exhausted j)} fn nt fr)
   | _,_=> .fail "results"
  | none=> .fail "marks"
 | n+1,.begin l::k,st=>
  match recAt st.hp l with
  | some (i,r,.ready,j)=>run C n k {st with hp:=st.hp.set i (.kg l r .busy j)}
  | _=> .fail "not ready"
 | n+1,.round l fn nt fr d::k,st=>run C n (.lf l .none fn nt fr d::k) st
 | n+1,.lf l j fn nt fr d::k,st=>
  match recAt st.hp l with
  | some (i,r,_,_)=>
   if pj (eT st fn nt fr) d then
    run C n k ((eT {st with hp:=st.hp.set i (.kg l r (if j= .none then .ready else .done) j)} fn nt fr).put d (.bool (.lit (decide (j= .none)))))
   else .fail "slot"
  | none=> .fail "record"
 | n+1,.rl all pm rest done log::k,st=>
  match rest with
  | []=>run C n k st
  | _=>
   match rest.find? fun i=>B7 all i&&ln all done i with
   | some i=>
    match all[i]? with
    | some o=>
     if pj st o.dst then
      match qb all (restrict st.fr (slotsOf all o)) st.known o with
      | none=> .fail "guard" i
      | some g=>
       if Zp st.aX g then
        match Ec C g {st with fr:=restrict st.fr (slotsOf all o)} o with
        | some res=>
         match res.gg with
         | .none=>
          pN g res.vcs st.known (run C n (.rl all pm (rest.filter fun j=>j != i) (done|||(1 <<< i)) ((i,res.rd)::log)::k)
           (({st with known:=BY g res.vcs st.known}).put o.dst (JO g res.val)))
         | _=> .fail "effect" i
        | none=> .fail "quiet" i
       else .fail "scope"
     else .fail "slot"
    | none=> .fail "no op"
   | none=>
    LV ((rest.filter (ln all done)).map fun e=>
     match all[e]? with
     | some o=>
      if pj st o.dst then run C n (.ops all [o]:: .LS all pm e rest done log st.fn st.nt st.fr st.hp st.aX::k) {st with fr:=restrict st.fr (slotsOf all o)}else .fail "slot"
     | none=> .fail "no op")
 | n+1,.LS all pm e rest done log fn nt fr hp aX::k,st=>
  match all[e]? with
  | some o=>
   if(log.all fun x=>(pm.getD e 0).testBit x.1||kept aX hp st.hp x.2)&&st.nt==nt then
    match (match o.dst with | some d=>look st.fr d | none=>some .undef)with
    | some v=>run C n (.rl all pm (rest.filter fun j=>j != e) (done|||(1 <<< e)) log::k) ((eT st fn nt fr).put o.dst v)
    | none=> .fail "result"
   else .fail "read beside"
  | none=> .fail "no op"
def gS(C:Ctx)(f:Nat)(args:List SV)(hp:List Ck)(aX:cG)(fd:Func):F:=
 match fd.body with
 | some c=>if SV.oE aX args&&hp.all (Ck.sc aX)then run C 100000 [.code c,.top fd] {fn:=f,fr:=dM 0 args,hp:=hp,aX:=aX,nt:=⟨fd.ntmps,[]⟩}else .fail "scope"
 | none=> .fail "no body"
end Go.RX
