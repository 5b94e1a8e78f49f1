/- A reflective symbolic executor, part 4: the run over code, and the formula that it leaves. -/
import Derived.Test.YtfnaoeleljhmhaaGreatRxC

namespace Go.RX
def Cnt.add(a b:Cnt):Cnt:=⟨a.b+b.b,a.v+b.v,a.i+b.i,a.a+b.a,a.bo+b.bo,a.p+b.p,a.r+b.r⟩
inductive Eq2 where
 | e (a b:E)
 | a (n:E) (a b:E)
 | af (a b:E)
 | b (a b:BE)
 | v (i j:Nat)
 | p (i j:Nat)
 | bl (i j:Nat)
 | rc (i j:Nat)
 deriving Repr
inductive F where
 | fail (s:String) (slot:Nat:=0)
 | vc (b:BE) (r:F)
 | fork (c:BE) (t e:F)
 | ret (v:SV) (hp:List Ck)
 | allB (r:F)
 | allV (r:F)
 | nilV (r:F)
 | allRec (outer:Bool) (r:F)
 | call (f:Nat) (args:List SV) (use:List Ck) (inc:Cnt) (val:SV) (new:List Ck) (r:F)
 | ext (f:Nat) (args:List SV) (use:List Ck) (inc:Cnt) (val:SV) (new:List Ck) (r:F)
 | loop (up:Nat) (inc:Cnt) (eqs:List Eq2) (body:F)
 | back (up:Nat) (c0:Cnt) (inc:Cnt) (eqs:List Eq2)
 | join (up:Nat) (inc:Cnt) (body r:F)
 | meet (up:Nat) (c0:Cnt) (inc:Cnt) (eqs:List Eq2)
 | ghost (use:List Ck) (inc:Cnt) (eqs:List Eq2) (new:List Ck) (r:F)
 | both (a b:F)
 deriving Inhabited
def bothF:List F→F
 | []=> .fail "none"
 | [x]=>x
 | x::y::r=> .both x (bothF (y::r))
def E.sc(c:Cnt):E→Bool
 | .lit _=>true
 | .var i=>Nat.blt i c.i
 | .avar i=>Nat.blt i c.a
 | .sel a i=>a.sc c&&i.sc c
 | .bin _ _ a b=>a.sc c&&b.sc c
 | .wrap _ a=>a.sc c
 | .upd a i v=>a.sc c&&i.sc c&&v.sc c
 | .shift a o=>a.sc c&&o.sc c
 | .spl a o n b=>a.sc c&&o.sc c&&n.sc c&&b.sc c
 | .kc _ a=>a.sc c
 | .blk b=>Nat.blt b c.b
 | .rowl _=>true
 | .at2 a i=>a.sc c&&i.sc c
 | .put2 a i s=>a.sc c&&i.sc c&&s.sc c
 | .sby s=>s.sc c
 | .srow s=>s.sc c
 | .scd s=>s.sc c
def BE.sc(c:Cnt):BE→Bool
 | .lit _=>true
 | .var i=>Nat.blt i c.bo
 | .eq a b=>a.sc c&&b.sc c
 | .lt a b=>a.sc c&&b.sc c
 | .le a b=>a.sc c&&b.sc c
 | .nz a=>a.sc c
 | .aeq _ a b=>a.sc c&&b.sc c
 | .not a=>a.sc c
 | .and a b=>a.sc c&&b.sc c
 | .or a b=>a.sc c&&b.sc c
 | .ite x t e=>x.sc c&&t.sc c&&e.sc c
 | .seq a b=>a.sc c&&b.sc c
 | .vnil i=>Nat.blt i c.v
def Cut.sc(c:Cnt)(k:Cut):Bool:=k.lo.sc c&&k.hi.sc c&&(match k.mx with | some m=>m.sc c | none=>true)
mutual
def SV.sc(c:Cnt):SV→Bool
 | .int _ e=>e.sc c
 | .bool b=>b.sc c
 | .ptr b _=>Nat.blt b c.b
 | .ptri b i _ _=>Nat.blt b c.b&&i.sc c
 | .pv v i _ _=>Nat.blt v c.v&&i.sc c
 | .sl b i _ n m=>Nat.blt b c.b&&i.sc c&&n.sc c&&m.sc c
 | .vv i=>Nat.blt i c.v
 | .fn _ caps=>SV.scL c caps
 | .fm _ caps=>SV.scL c caps
 | .fmi _ _ b _=>Nat.blt b c.b
 | .agg cs=>SV.scL c cs
 | .seg _ _ a=>a.sc c
 | .tup vs=>SV.scL c vs
 | .opt b v=>b.sc c&&v.sc c
 | .vsel _ i=>i.sc c
 | .yld l=>Nat.blt l c.b
 | .mp b=>Nat.blt b c.b
 | .vsub v cs _=>Nat.blt v c.v&&cs.all (Cut.sc c)
 | .ptrE e=>e.sc c
 | .cvE e=>e.sc c
 | .strE e=>e.sc c
 | .ifv b v=>b.sc c&&Nat.blt v c.v
 | .ifl _ _ e=>e.sc c
 | .ifp _ b _=>Nat.blt b c.b
 | .asl v i _ _ _=>Nat.blt v c.v&&i.sc c
 | _=>true
def SV.scL(c:Cnt):List SV→Bool
 | []=>true
 | v::r=>v.sc c&&SV.scL c r
end
def CK.sc(c:Cnt):CK→Bool
 | .vls l=>l.all fun n=>Nat.blt n c.v
 | .pt i v=>i.sc c&&Nat.blt v c.v
 | _=>true
def Col.sc(c:Cnt)(k:Col):Bool:=k.a.sc c&&k.ck.sc c
def Ck.sc(c:Cnt):Ck→Bool
 | .emp=>true
 | .row b _ cs=>Nat.blt b c.b&&SV.scL c cs
 | .sli _ v _ _ n cols=>Nat.blt v c.v&&n.sc c&&cols.all (Col.sc c)
 | .abs i=>Nat.blt i c.p
 | .lrec l r _ _=>Nat.blt l c.b&&Nat.blt r c.r
 | .dfr b=>Nat.blt b c.b
 | .dfrs b=>Nat.blt b c.b
 | .map b _ _ _ zero has cols=>Nat.blt b c.b&&SV.scL c zero&&has.sc c&&cols.all (Col.sc c)
 | .mapl b _ _ _ zero es=>Nat.blt b c.b&&SV.scL c zero&&es.all fun e=>SV.scL c e.2
 | .bld b _ _ n a=>Nat.blt b c.b&&n.sc c&&a.sc c
 | .sit b _ _=>Nat.blt b c.b
 | .mit b m=>Nat.blt b c.b&&Nat.blt m c.b
def frSc(c:Cnt)(fr:List (Nat×SV)):Bool:=fr.all fun x=>x.2.sc c
def Eff.sc(c:Cnt):Eff→Bool
 | .none=>true
 | .new (.row _ _ cs)=>SV.scL c cs
 | .new (.map _ _ _ _ zero has cols)=>SV.scL c zero&&has.sc c&&cols.all (Col.sc c)
 | .new (.mapl _ _ _ _ zero es)=>SV.scL c zero&&es.all fun e=>SV.scL c e.2
 | .new (.bld _ _ _ n a)=>n.sc c&&a.sc c
 | .new (.sit _ _ _)=>true
 | .new (.mit _ m)=>Nat.blt m c.b
 | .set _ ck=>ck.sc c
 | .app _ (.sli _ _ _ _ n cols)=>n.sc c&&cols.all (Col.sc c)
 | .own (.sli _ _ _ _ n cols)=>n.sc c&&cols.all (Col.sc c)
 | .lend (.sli _ _ _ _ n cols)=>n.sc c&&cols.all (Col.sc c)
 | _=>false
def Eff.grow(c:Cnt):Eff→Cnt
 | .new _=>{c with b:=c.b+1}
 | .app .. =>{c with v:=c.v+1}
 | .own .. =>{c with v:=c.v+1}
 | .lend .. =>{c with v:=c.v+1}
 | _=>c
def Res.sc(c:Cnt)(r:Res):Bool:=r.val.sc (r.eff.grow c)&&r.vcs.all (BE.sc c)&&r.eff.sc c
inductive MK where
 | one (b:Nat)
 | many (b:Nat)
 deriving DecidableEq,Repr
def MK.sc(c:Cnt):MK→Bool
 | .one b=>Nat.blt b c.b
 | .many b=>Nat.blt b c.b
def unifyMK:List MK→List MK→Option (List Eq2)
 | [],[]=>some []
 | .one b::r,.one b'::r'=>(unifyMK r r').map (.bl b b':: ·)
 | .many b::r,.many b'::r'=>(unifyMK r r').map (.bl b b':: ·)
 | _,_=>none
structure NT where
 n:Nat:=0
 ds:List MK:=[]
 deriving DecidableEq,Repr,Inhabited
structure St where
 fn:Nat:=0
 fr:List (Nat×SV):=[]
 hp:List Ck:=[]
 cnt:Cnt:={}
 known:List BE:=[]
 nt:NT:={}
 deriving Inhabited
def look(fr:List (Nat×SV))(s:Nat):Option SV:=
 match fr with
 | []=>none
 | (t,v)::r=>if t==s then some v else look r s
def St.put(st:St)(d:Option Nat)(v:SV):St:=
 match d with
 | some d=>{st with fr:=(d,v)::st.fr.filter fun x=> !(x.1==d)}
 | none=>st
structure CallAnn where
 use:List SV→List Ck→List Nat
 inc:Cnt:={}
 val:Cnt→SV
 new:Cnt→List Ck→List Ck
 valOf:Option (List SV→List Ck→SV):=none
def callVal(ca:CallAnn)(az:List SV)(hp:List Ck)(c:Cnt):SV:=
 match ca.valOf with
 | some g=>g az hp
 | none=>ca.val c
inductive NilAt where
 | slot (s t:Nat)
 | cell (i j t:Nat)
 | cut (s:Nat) (md:Bool)
 | cutCell (i j:Nat) (md:Bool)
 | marks
 | mark
 | swap (s i:Nat)
 | own (s t:Nat)
structure LoopAnn where
 pre:List NilAt:=[]
 inc:Cnt:={}
 slots:Cnt→List (Nat×SV)
 hp:Cnt→List Ck→List Ck:=fun _ h=>h
 back:List NilAt:=[]
 ds:Cnt→List MK→List MK:=fun _ d=>d
structure GhostStep where
 split:Option BE:=none
 pick:Option (List Nat):=none
 use:List Nat:=[]
 inc:Cnt:={}
 slots:List (Nat×SV):=[]
 new:List Ck:=[]
structure JoinAnn where
 pre:List NilAt:=[]
 inc:Cnt:={}
 slots:Cnt→List (Nat×SV)
 hp:Cnt→List Ck→List Ck:=fun _ h=>h
 ds:Cnt→List MK→List MK:=fun _ d=>d
 gh:St→Option GhostStep:=fun _=>none
inductive KI where
 | gh (g:St→Option GhostStep)
 | code (c:Code)
 | ops (all:Array Oper) (rest:List Oper)
 | dops (all:Array Oper) (pm:List Nat) (rest:List Nat) (done:Nat) (log:List (Nat×List Nat))
 | dret (all:Array Oper) (pm:List Nat) (e:Nat) (rest:List Nat) (done:Nat) (log:List (Nat×List Nat)) (fn:Nat) (nt:NT) (fr:List (Nat×SV)) (hp:List Ck) (cnt:Cnt)
 | blk (id:Nat)
 | again (body:Code)
 | loop (up:Nat) (nt:NT) (c0:Cnt) (inc:Cnt) (fr:List (Nat×SV)) (hp:List Ck) (bk:List NilAt)
 | jn (id:Option Nat) (up:Nat) (nt:NT) (c0:Cnt) (inc:Cnt) (fr:List (Nat×SV)) (hp:List Ck) (pre:List NilAt)
 | call (fn:Nat) (nt:NT) (fr:List (Nat×SV)) (dst:Option Nat) (callee:Func)
 | rf (l r:Nat) (fn:Nat) (nt:NT) (fr:List (Nat×SV)) (ps:Array Tmp) (assign body:Code) (callee:Func)
 | begin (l:Nat)
 | round (l:Nat) (fn:Nat) (nt:NT) (fr:List (Nat×SV)) (dst:Option Nat)
 | roundEnd (l:Nat) (j:Jump) (fn:Nat) (nt:NT) (fr:List (Nat×SV)) (dst:Option Nat)
 | top (callee:Func)
 deriving Inhabited
structure PRes where
 val:SV
 vcs:List BE:=[]
 use:List Nat:=[]
 new:List Ck:=[]
structure Ctx where
 T:List TI
 FT:List (Nat×Func)
 calls:Nat→Nat→Option CallAnn:=fun _ _=>none
 loops:Nat→Nat→Option LoopAnn:=fun _ _=>none
 joins:Nat→Nat→Option JoinAnn:=fun _ _=>none
 ghosts:Nat→Nat→Option (St→Option GhostStep):=fun _ _=>none
 callees:Nat→Option CallAnn:=fun _=>none
 pure:Nat→Option (List SV→List Ck→Option PRes):=fun _=>none
def pureRes(C:Ctx)(f:Nat)(az:List SV)(hp:List Ck):Option PRes:=
 match C.pure f with
 | some g=>g az hp
 | none=>none
def annOf(C:Ctx)(fn d f:Nat):Option CallAnn:=
 match C.calls fn d with
 | some ca=>some ca
 | none=>C.callees f
def unifyCuts:List Cut→List Cut→Option (List Eq2)
 | [],[]=>some []
 | a::r,b::r'=>
  match a.mx,b.mx,unifyCuts r r' with
  | none,none,some x=>some (.e a.lo b.lo:: .e a.hi b.hi::x)
  | some m,some m',some x=>some (.e a.lo b.lo:: .e a.hi b.hi:: .e m m'::x)
  | _,_,_=>none
 | _,_=>none
mutual
def unifySV:SV→SV→Option (List Eq2)
 | .int k a,.int k' b=>if k=k' then some [.e a b]else none
 | .bool a,.bool b=>some [.b a b]
 | .nilp,.nilp=>some []
 | .nils,.nils=>some []
 | .nilf,.nilf=>some []
 | .nili,.nili=>some []
 | .nilm,.nilm=>some []
 | .undef,.undef=>some []
 | .ptr b c,.ptr b' c'=>if c=c' then some [.bl b b']else none
 | .ifp t b c,.ifp t' b' c'=>if t=t'∧c=c' then some [.bl b b']else none
 | .ptri b i s c,.ptri b' i' s' c'=>if c=c'∧s=s' then some [.bl b b',.e i i']else none
 | .pv b i s c,.pv b' i' s' c'=>if c=c'∧s=s' then some [.v b b',.e i i']else none
 | .sl b i s n m,.sl b' i' s' n' m'=>if s=s' then some [.bl b b',.e i i',.e n n',.e m m']else none
 | .vv i,.vv j=>some [.v i j]
 | .str l,.str l'=>if l=l' then some []else none
 | .strE s,.strE s'=>some [.af s s']
 | .ifv c v,.ifv c' v'=>some [.b c c',.v v v']
 | .ifl t k e,.ifl t' k' e'=>if t=t'∧k=k' then some [.e e e']else none
 | .strE s,.str l=>some [.af s (rowB l)]
 | .fn f cs,.fn f' cs'=>if f=f' then unifySVs cs cs' else none
 | .fm f cs,.fm f' cs'=>if f=f' then unifySVs cs cs' else none
 | .agg cs,.agg cs'=>unifySVs cs cs'
 | .seg k n a,.seg k' n' b=>if k=k'∧n=n' then some [.a (.lit n) a b]else none
 | .tup cs,.tup cs'=>unifySVs cs cs'
 | .opt c v,.opt c' v'=>(unifySV v v').map (.b c c':: ·)
 | .yld l,.yld l'=>some [.bl l l']
 | .mp l,.mp l'=>some [.bl l l']
 | .ptrE e,.ptrE e'=>some [.e e e']
 | .ptrE e,.ptr b o=>if o=0 then some [.e e (.blk b)]else none
 | .ptrE e,.nilp=>some [.e e (.lit 0)]
 | .ptr b o,.ptrE e=>if o=0 then some [.e (.blk b) e]else none
 | .cvE e,.cvE e'=>some [.e e e']
 | .cvE e,.nils=>some [.e e (.lit 0)]
 | .vsub v cs s,.vsub v' cs' s'=>if s=s' then(unifyCuts cs cs').map (.v v v':: ·)else none
 | _,_=>none
def unifySVs:List SV→List SV→Option (List Eq2)
 | [],[]=>some []
 | a::r,b::r'=>match unifySV a b,unifySVs r r' with
  | some x,some y=>some (x++y)
  | _,_=>none
 | _,_=>none
end
def unifyCols(n:E):List Col→List Col→Option (List Eq2)
 | [],[]=>some []
 | a::r,b::r'=>
  match a.ck,b.ck with
  | .vls l,.vls l'=>if l.length=l'.length∧a.w=b.w then(unifyCols n r r').map ((l.zip l').map (fun x=>Eq2.v x.1 x.2)++ ·)else none
  | .pt _ _,_=>none
  | _,_=>if a.ck=b.ck∧a.w=b.w then(unifyCols n r r').map ((if a.ck= .str then .af a.a b.a else .a (eMul n (.lit a.w)) a.a b.a):: ·)
   else if a.ck= .cv∧b.ck= .nils∧a.w=b.w then(unifyCols n r r').map (.a (eMul n (.lit a.w)) a.a (.lit 0):: ·)else none
 | _,_=>none
def unifyColsF:List Col→List Col→Option (List Eq2)
 | [],[]=>some []
 | a::r,b::r'=>
  match a.ck,b.ck with
  | .vls _,_=>none
  | .pt i v,.pt j u=>if a.w=b.w then(unifyColsF r r').map (fun l=> .e i j:: .v v u:: .af a.a b.a::l)else none
  | .pt _ _,_=>none
  | _,_=>if a.ck=b.ck∧a.w=b.w then(unifyColsF r r').map (.af a.a b.a:: ·)else none
 | _,_=>none
def fitRow:Nat→List SV→List SV→List SV
 | 0,_,act=>act
 | f+1,.int _ _::p,.seg k (m+1) a::r=> .int k (eSel a (.lit 0))::fitRow f p (if m=0 then r else .seg k m (eShift a (.lit 1))::r)
 | f+1,.seg k n _::p,x::r=>
  if SV.width x=n then x::fitRow f p r else
  match rowCut 0 n (x::r),rowDrop n (x::r)with
  | some c,some d=>
   match rowOf c with
   | some (kl,e)=>if kl=List.replicate n k then .seg k n e::fitRow f p d else x::r
   | none=>x::r
  | _,_=>x::r
 | f+1,_::p,x::r=>x::fitRow f p r
 | _+1,_,act=>act
def unifyEs:List (Nat×List SV)→List (Nat×List SV)→Option (List Eq2)
 | [],[]=>some []
 | (i,v)::r,(j,u)::r'=>if i=j then(match unifySVs v u,unifyEs r r' with
  | some x,some y=>some (x++y)
  | _,_=>none)else none
 | _,_=>none
def unifyCk:Ck→Ck→Option (List Eq2)
 | .emp,.emp=>some []
 | .row b w cs,.row b' w' cs'=>if w=w' then(unifySVs cs (fitRow 200 cs cs')).map (.bl b b':: ·)else none
 | .sli md v t s n cols,.sli md' v' t' s' n' cols'=>if md=md'∧t=t'∧s=s' then(unifyCols n cols cols').map fun r=> .v v v':: .e n n'::r else none
 | .abs i,.abs j=>some [.p i j]
 | .lrec l r s j,.lrec l' r' s' j'=>if s=s'∧j=j' then some [.bl l l',.rc r r']else none
 | .dfr b,.dfr b'=>some [.bl b b']
 | .dfrs b,.dfrs b'=>some [.bl b b']
 | .map b kl ka va z has cols,.map b' kl' ka' va' z' has' cols'=>
  if kl=kl'∧ka=ka'∧va=va' then
   match unifySVs z z',unifyColsF cols cols' with
   | some x,some y=>some (.bl b b':: .af has has'::(x++y))
   | _,_=>none
  else none
 | .mapl b kl ka va z es,.mapl b' kl' ka' va' z' es'=>
  if kl=kl'∧ka=ka'∧va=va' then
   match unifySVs z z',unifyEs es es' with
   | some x,some y=>some (.bl b b'::(x++y))
   | _,_=>none
  else none
 | .bld b t e n a,.bld b' t' e' n' a'=>if t=t'∧e=e' then some [.bl b b',.e n n',.a n a a']else none
 | .sit b l p,.sit b' l' p'=>if l=l'∧p=p' then some [.bl b b']else none
 | .mit b m,.mit b' m'=>some [.bl b b',.bl m m']
 | _,_=>none
def unifyHp:List Ck→List Ck→Option (List Eq2)
 | [],_=>some []
 | a::r,b::r'=>match unifyCk a b,unifyHp r r' with
  | some x,some y=>some (x++y)
  | _,_=>none
 | _::_,[]=>none
def unifyFr(pat act:List (Nat×SV)):Option (List Eq2):=
 match pat with
 | []=>some []
 | (s,v)::r=>match look act s,unifyFr r act with
  | some v',some y=>(unifySV v v').map (· ++y)
  | _,_=>none
def Eq2.trivial(c:Cnt):Eq2→Bool
 | .e x y=>x==y&&x.sc c
 | .a n x y=>x==y&&x.sc c&&n.sc c
 | .b x y=>x==y&&x.sc c
 | .af x y=>x==y&&x.sc c
 | .v i j=>i==j&&Nat.blt i c.v
 | .p i j=>i==j&&Nat.blt i c.p
 | .bl i j=>i==j&&Nat.blt i c.b
 | .rc i j=>i==j&&Nat.blt i c.r
def writes:Code→List Nat
 | .region _ ops _=>ops.toList.filterMap (·.dst)
 | .seq a b=>writes a++writes b
 | .cond _ a b=>writes a++writes b
 | .block _ b=>writes b
 | .loop b=>writes b
 | .scope b=>writes b
 | .rangeFunc _ ps a b=>ps.toList++writes a++writes b
 | _=>[]
def popExit(id:Nat):List KI→Option (List KI)
 | .blk i::k=>if i==id then some k else popExit id k
 | .again _::k=>popExit id k
 | .code _::k=>popExit id k
 | .ops .. ::k=>popExit id k
 | .loop .. ::k=>popExit id k
 | .gh _::k=>popExit id k
 | .jn i up nt c0 inc fr hp pre::k=>if i==some id then some (.jn i up nt c0 inc fr hp pre::k)else popExit id k
 | .round l fn nt fr d::k=>some (.roundEnd l (.exit id) fn nt fr d::k)
 | _=>none
def popRet:List KI→Option (List KI)
 | .call fn nt fr d f::k=>some (.call fn nt fr d f::k)
 | .top f::k=>some (.top f::k)
 | .rf l r fn nt fr ps x y f::k=>some (.rf l r fn nt fr ps x y f::k)
 | .round l fn nt fr d::k=>some (.roundEnd l .ret fn nt fr d::k)
 | .blk _::k=>popRet k
 | .again _::k=>popRet k
 | .code _::k=>popRet k
 | .ops .. ::k=>popRet k
 | .loop .. ::k=>popRet k
 | .jn .. ::k=>popRet k
 | .gh _::k=>popRet k
 | _=>none
def around:List KI→Option Nat
 | []=>none
 | .call .. ::_=>none
 | .top _::_=>none
 | .rf .. ::_=>none
 | .begin l::_=>some l
 | .round l .. ::_=>some l
 | _::k=>around k
def nl:List KI→Nat
 | []=>0
 | .loop .. ::k=>nl k+1
 | .jn .. ::k=>nl k+1
 | _::k=>nl k
def resOne(T:List TI)(st:St):ResultVar→Option SV
 | .tmp t=>look st.fr t
 | .cell a t=>match tlook T t,look st.fr a with
  | some ti,some x=>match loadSym st.hp ti.k.agg ti.size x with
   | some r=>if r.vcs.isEmpty then some r.val else none
   | none=>none
  | _,_=>none
def resAll(T:List TI)(st:St)(fn:Func):Option SV:=
 match optAll (fn.results.toList.map (resOne T st))with
 | some [v]=>some v
 | some vs=>some (.tup vs)
 | none=>none
def env0:Env:={}
def BE.sure(b:BE):Bool:=b.sc {}&&b.den env0
def more(vcs known:List BE):List BE:=vcs.filter (fun b=> !b.sure)++known
def gvc(g:Option BE)(b:BE):BE:=
 match g with
 | some c=>bOr (bNot c) b
 | none=>b
def wrapVc(g:Option BE):List BE→List BE→F→F
 | [],_,r=>r
 | b::bs,known,r=>if gvc g b== .lit true||known.contains (gvc g b)||(gvc g b).sure then wrapVc g bs known r else .vc (gvc g b) (wrapVc g bs known r)
def gden(ρ:Env):Option BE→Bool
 | some c=>c.den ρ
 | none=>true
def guardOf(all:Array Oper)(fr:List (Nat×SV))(o:Oper):Option (Option BE):=
 match o.guard with
 | none=>some none
 | some (j,want)=>
  match all[j]? with
  | some oj=>match oj.dst with
   | some d=>match look fr d with
    | some (.bool b)=>some (some (if want then b else bNot b))
    | some (.opt c (.bool b))=>some (some (bAnd c (if want then b else bNot b)))
    | some .undef=>some (some (.lit false))
    | some (.opt _ .undef)=>some (some (.lit false))
    | _=>none
   | none=>none
  | none=>none
def applyEff(st:St)(e:Eff):St:=
 match e with
 | .none=>st
 | .new ck=>{st with hp:=st.hp++[ck],cnt:={st.cnt with b:=st.cnt.b+1}}
 | .set i ck=>{st with hp:=st.hp.set i ck}
 | .app i ck=>{st with hp:=st.hp.set i ck,cnt:={st.cnt with v:=st.cnt.v+1}}
 | .own ck=>{st with hp:=st.hp++[ck],cnt:={st.cnt with v:=st.cnt.v+1}}
 | .lend ck=>{st with hp:=st.hp++[ck],cnt:={st.cnt with v:=st.cnt.v+1}}
def replL{α:Type}(e:α)(hp:List α):List Nat→List α→List α
 | i::r,c::cs=>replL e (hp.set i c) r cs
 | i::r,[]=>replL e (hp.set i e) r []
 | [],cs=>hp++cs
def replaceHp(hp:List Ck)(use:List Nat)(new:List Ck):List Ck:=replL .emp hp use new
def nilGo(T:List TI)(st:St)(t:Nat):Option St:=
 match tlook T t,colsOf T 30 t with
 | some ti,some cols=>if cols.all (Col.sc st.cnt)then some {st with hp:=st.hp++[.sli true st.cnt.v t ti.size (.lit 0) cols],cnt:={st.cnt with v:=st.cnt.v+1}}else none
 | _,_=>none
inductive Wrap where
 | nil
 | cut (vcs:List BE)
 | blk
 | same
def cutGo(st:St)(x:SV)(md:Bool):Option (St×Wrap):=
 match rootSV st.hp x with
 | some r=>
  match shiftCols r.p.lo r.cols with
  | some cols=>
   if r.s=colsW r.cols∧(md=true→r.md=true)∧r.p.len.sc st.cnt=true∧cols.all (Col.sc st.cnt)=true then
    some ({st with hp:=st.hp.set r.j (.sli md st.cnt.v r.t r.s r.p.len cols),cnt:={st.cnt with v:=st.cnt.v+1}},.cut (r.vcs++bLe' (.lit 0) r.p.len))
   else none
  | none=>none
 | none=>none
def ownGo(st:St)(x:SV)(t:Nat):Option (St×Wrap):=
 match x with
 | .sl b i s n m=>
  match findAt st.hp b,litNat i,litNat n with
  | some (j,.row _ true cs),some 0,some q=>
   match rowOf cs with
   | some (ki::kl,a)=>
    if n=m∧s=1∧kl.length+1=q∧ki::kl=List.replicate q ki∧q≤140737488355328∧a.sc st.cnt=true then
     some ({st with hp:=st.hp.set j (.sli true st.cnt.v t 1 (.lit (q:Int)) [⟨.int ki,1,a⟩]),cnt:={st.cnt with v:=st.cnt.v+1}},.cut [])
    else none
   | _=>none
  | _,_,_=>none
 | _=>none
def Ck.isDfr(b:Nat):Ck→Bool
 | .dfr b'=>b==b'
 | _=>false
def Ck.isDfrs(b:Nat):Ck→Bool
 | .dfrs b'=>b==b'
 | _=>false
def swapAt(hp:List Ck)(i j:Nat):List Ck:=
 match hp[i]?,hp[j]? with
 | some d,some c=>(hp.set i c).set j d
 | _,_=>hp
def swapTo(st:St)(s:Nat):Option Nat:=
 match look st.fr s with
 | some (.ptr b _)=>(findAt st.hp b).map (·.1)
 | some (.vv v)=>(findOwn st.hp v).map (·.1)
 | some (.sl b _ _ _ _)=>(findAt st.hp b).map (·.1)
 | _=>none
def nilAt(T:List TI)(st:St)(x:NilAt):Option (St×Wrap):=
 match x with
 | .slot s t=>match look st.fr s with
  | some .nils=>(nilGo T st t).map fun st'=>(st'.put (some s) (.vv st.cnt.v),.nil)
  | _=>none
 | .cell i j t=>match st.hp[i]? with
  | some (.row b w cs)=>match cs[j]? with
   | some .nils=>(nilGo T st t).map fun st'=>({st' with hp:=st'.hp.set i (.row b w (cs.set j (.vv st.cnt.v)))},.nil)
   | _=>none
  | _=>none
 | .cut s md=>match look st.fr s with
  | some x=>(cutGo st x md).map fun y=>(y.1.put (some s) (.vv st.cnt.v),y.2)
  | none=>none
 | .cutCell i j md=>match st.hp[i]? with
  | some (.row b w cs)=>match cs[j]? with
   | some x=>match cutGo st x md with
    | some (st',wr)=>match st'.hp[i]? with
     | some (.row b' w' _)=>if b'=b∧w'=w then some ({st' with hp:=st'.hp.set i (.row b w (cs.set j (.vv st.cnt.v)))},wr)else none
     | _=>none
    | none=>none
   | none=>none
  | _=>none
 | .marks=>some ({st with nt:={st.nt with ds:= .many st.cnt.b::st.nt.ds},hp:=st.hp++[.dfrs st.cnt.b],cnt:={st.cnt with b:=st.cnt.b+1}},.blk)
 | .mark=>match st.nt.ds with
  | .one b:: .many c::ds=>match st.hp.findIdx? (Ck.isDfr b),st.hp.findIdx? (Ck.isDfrs c)with
   | some i,some j=>some ({st with nt:={st.nt with ds:= .many st.cnt.b::ds},hp:=(st.hp.set i .emp).set j (.dfrs st.cnt.b),cnt:={st.cnt with b:=st.cnt.b+1}},.blk)
   | _,_=>none
  | .many _::_=>some (st,.same)
  | _=>none
 | .own s t=>match look st.fr s with
  | some x=>(ownGo st x t).map fun y=>(y.1.put (some s) (.vv st.cnt.v),y.2)
  | none=>none
 | .swap s i=>match swapTo st s with
  | some j=>some ({st with hp:=swapAt st.hp i j},.same)
  | none=>none
def nilAll(T:List TI):St→List NilAt→Option (St×List Wrap)
 | st,[]=>some (st,[])
 | st,x::r=>match nilAt T st x with
  | some (st',y)=>match nilAll T st' r with
   | some (s2,k)=>some (s2,y::k)
   | none=>none
  | none=>none
def vcF:List BE→F→F
 | [],f=>f
 | b::r,f=> .vc b (vcF r f)
def nilWrap:List Wrap→F→F
 | [],f=>f
 | .nil::r,f=> .nilV (nilWrap r f)
 | .blk::r,f=> .allB (nilWrap r f)
 | .same::r,f=>nilWrap r f
 | .cut vcs::r,f=>vcF vcs (.allV (nilWrap r f))
def methOf(T:List TI)(t:Nat)(name:String):Option Nat:=
 match tlook T t with
 | some ti=>(ti.ms.find? fun x=>x.1==name).map (·.2)
 | none=>none
def callOf(T:List TI)(look:Nat→Option SV)(o:Oper):Option (Nat×List SV):=
 match o.op with
 | .call {callee:= .value f,args,.. }=>
  match opEval look f,optAll (args.toList.map (opEval look))with
  | some (.fn f caps),some az=>some (f,az++caps)
  | some (.fm f first),some az=>some (f,first++az)
  | some (.fmi name t b c),some az=>(methOf T t name).map fun f=>(f,.ptr b c::az)
  | _,_=>none
 | .call {callee:= .invoke recv name,args,.. }=>
  match opEval look recv,optAll (args.toList.map (opEval look))with
  | some (.ifp t b c),some az=>(methOf T t name).map fun f=>(f,.ptr b c::az)
  | _,_=>none
 | _=>none
def enumFrom(n:Nat):List SV→List (Nat×SV)
 | []=>[]
 | v::r=>(n,v)::enumFrom (n+1) r
def decideB(known:List BE)(b:BE):BE:=
 match b with
 | .lit x=> .lit x
 | b=>if b.sc {}then .lit (b.den env0)else if known.contains b then .lit true else if known.contains (bNot b)then .lit false else b
def SV.onC(c:BE):SV→SV
 | .opt c' v=>
  if c'=c then v else
  match c' with
  | .and a b=>if a=c then .opt b v else .opt (.and a b) v
  | c'=> .opt c' v
 | .bool b=>if b=c then .bool (.lit true)else .bool b
 | v=>v
def SV.offC(c:BE):SV→SV
 | .opt c' v=>
  if c'=c then .undef else
  match c' with
  | .and a b=>if a=c then .undef else .opt (.and a b) v
  | c'=> .opt c' v
 | .bool b=>if b=c then .bool (.lit false)else .bool b
 | v=>v
def St.onC(c:BE)(st:St):St:={st with fr:=st.fr.map fun x=>(x.1,x.2.onC c),known:=c::st.known}
def St.offC(c:BE)(st:St):St:={st with fr:=st.fr.map fun x=>(x.1,x.2.offC c),known:=bNot c::st.known}
def under(c:BE)(lk:Nat→Option SV)(s:Nat):Option SV:=
 match lk s with
 | some (.opt c' v)=>
  if c'=c then some v else
  match c' with
  | .and a b=>if a=c then some (.opt b v)else some (.opt (.and a b) v)
  | c'=>some (.opt c' v)
 | x=>x
def condOf(fr:List (Nat×SV))(known:List BE)(x:Operand):Option BE:=
 match opEval (look fr) x with
 | some (.bool b)=>some (decideB known b)
 | _=>none
def guardAt(all:Array Oper)(fr:List (Nat×SV))(known:List BE)(o:Oper):Option (Option BE):=
 match guardOf all fr o with
 | some (some b)=>match decideB known b with
  | .lit true=>some none
  | b=>some (some b)
 | x=>x
def SV.fix(known:List BE):SV→SV
 | .opt c v=>match decideB known c with
  | .lit true=>v
  | .lit false=> .undef
  | _=> .opt c v
 | .bool b=> .bool (decideB known b)
 | v=>v
def SV.fixG(c:BE)(known:List BE):SV→SV
 | .bool b=>if known.contains (bNot (bAnd c b))then .bool (.lit false)else .bool b
 | .opt b v=>if known.contains (bNot (bAnd c b))then .undef else .opt b v
 | v=>v
def look?(g:Option BE)(known:List BE)(fr:List (Nat×SV))(s:Nat):Option SV:=
 match g with
 | some c=>(under c (look fr) s).map fun v=>(v.fix known).fixG c known
 | none=>(look fr s).map (SV.fix known)
def Op.quiet:Op→Bool
 | .move _ | .assign _ | .pick .. | .build .. | .load .. | .nilCheck _ | .binOp .. | .unOp .. | .sliceToArrayPointer .. | .fieldAddr .. | .field .. | .indexAddr .. | .index .. | .extract .. | .makeFunc .. | .makeInterface .. | .slice .. | .lookup .. =>true
 | .convert a b _=> !(a==b)
 | .call {callee:= .builtin .len,.. }=>true
 | .call {callee:= .builtin .max,.. }=>true
 | .call {callee:= .builtin .min,.. }=>true
 | _=>false
def readyB(all:Array Oper)(done:Nat)(i:Nat):Bool:=
 match all[i]? with
 | some o=>o.after.toList.all fun e=> !Region.binds .any e||done.testBit e.on
 | none=>false
def predsB(all:Array Oper):List Nat→List Nat→List Nat
 | [],acc=>acc
 | i::r,acc=>
  match all[i]? with
  | some o=>predsB all r (acc++[o.after.toList.foldl (fun s e=>if Region.binds .any e&&Nat.blt e.on i then s|||(1 <<< e.on)|||acc.getD e.on 0 else s) 0])
  | none=>acc
def slotsOf(all:Array Oper)(o:Oper):List Nat:=
 o.op.operands.toList.filterMap (fun | .tmp t=>some t | _=>none)++
  (match o.guard with | some (j,_)=>(match all[j]? with | some oj=>oj.dst.toList | none=>[]) | none=>[])
def orderedB(all:Array Oper)(pm:List Nat):Bool:=
 (List.range all.size).all fun i=>
  match all[i]? with
  | some oi=>
   match oi.dst with
   | some d=>
    (List.range all.size).all fun j=>
     match all[j]? with
     | some oj=>i==j|| !((slotsOf all oj).contains d||oj.dst==some d)||(pm.getD j 0).testBit i||(pm.getD i 0).testBit j
     | none=>true
   | none=>true
  | none=>true
def pmOk(all:Array Oper)(pm:List Nat):Bool:=
 (List.range all.size).all fun p=>
  match all[p]? with
  | some o=>
   (o.after.toList.all fun e=> !Region.binds .any e||Nat.blt e.on p)&&
   ((List.range all.size).all fun q=> !(pm.getD p 0).testBit q||o.after.toList.any fun e=>Region.binds .any e&&(q==e.on||(pm.getD e.on 0).testBit q))
  | none=>true
def isQuiet(all:Array Oper)(i:Nat):Bool:=
 match all[i]? with
 | some o=>Op.quiet o.op
 | none=>false
def restrict(fr:List (Nat×SV))(slots:List Nat):List (Nat×SV):=fr.filter fun x=>slots.contains x.1
def kept(c:Cnt)(hp hp':List Ck)(rd:List Nat):Bool:=
 rd.all fun j=>
  match hp[j]?,hp'[j]? with
  | some a,some b=>(match unifyCk a b with | some l=>l.all (Eq2.trivial c) | none=>false)
  | none,_=>true
  | _,_=>false
def setNt(st:St)(fn:Nat)(nt:NT)(fr:List (Nat×SV)):St:={st with fn:=fn,nt:=nt,fr:=fr}
def okDst(st:St)(d:Option Nat):Bool:=
 match d with
 | some d=>Nat.blt d st.nt.n
 | none=>true
def stepVal(C:Ctx)(g:Option BE)(st:St)(o:Oper):Option Res:=
 match symOp C.T (look? g st.known st.fr) st.hp st.cnt.b st.cnt.v o with
 | some res=>if res.sc st.cnt then some res else none
 | none=>none
def stepQ(C:Ctx)(g:Option BE)(st:St)(o:Oper):Option Res:=
 match g with
 | some (.lit false)=>some {val:= .undef}
 | g=>stepVal C g st o
def gsc(c:Cnt):Option BE→Bool
 | some b=>b.sc c
 | none=>true
def gval:Option BE→SV→SV
 | some c,v=> .opt c v
 | none,v=>v
def gknown:Option BE→List BE→List BE→List BE
 | some _,_,k=>k
 | none,vcs,k=>more vcs k
def leave:List Ck→List MK→Option (List Ck)
 | hp,[]=>some hp
 | hp,.one d::ds=>
  match hp.findIdx? (Ck.isDfr d)with
  | some i=>leave (hp.set i .emp) ds
  | none=>none
 | hp,.many d::ds=>
  match hp.findIdx? (Ck.isDfrs d)with
  | some i=>leave (hp.set i .emp) ds
  | none=>none
def leaveSt(st:St):Option St:=(leave st.hp st.nt.ds).map fun hp=>{st with hp:=hp}
def findRec(l:Nat):List KI→Option (Nat×Nat×NT×List (Nat×SV)×Array Tmp×Code×Code)
 | []=>none
 | .rf l' r fn nt fr ps x y _::k=>if l'==l then some (r,fn,nt,fr,ps,x,y)else findRec l k
 | _::k=>findRec l k
def Ck.isRec(l:Nat):Ck→Bool
 | .lrec l' _ _ _=>l==l'
 | _=>false
def recAt(hp:List Ck)(l:Nat):Option (Nat×Nat×RS×Jump):=
 match hp.findIdx? (Ck.isRec l)with
 | some i=>
  match hp[i]? with
  | some (.lrec _ r s j)=>some (i,r,s,j)
  | _=>none
 | none=>none
def putAll(st:St):List (Nat×SV)→Option St
 | []=>some st
 | (d,v)::r=>if okDst st (some d)&&v.sc st.cnt then putAll (st.put (some d) v) r else none
def yldOf(look:Nat→Option SV)(o:Oper):Option (Nat×List SV):=
 match o.op with
 | .call {callee:= .value f,args,.. }=>
  match opEval look f,optAll (args.toList.map (opEval look))with
  | some (.yld l),some az=>some (l,az)
  | _,_=>none
 | _=>none
def run(C:Ctx):Nat→List KI→St→F
 | 0,_,_=> .fail "fuel"
 | _+1,[],_=> .fail "end"
 | n+1,.blk _::k,st=>run C n k st
 | n+1,.gh g::k,st=>
  match g st with
  | none=>run C n k st
  | some s=>
   match s.split with
   | some b=>if b.sc st.cnt then .fork b (run C n (.gh g::k) {st with known:=b::st.known}) (run C n (.gh g::k) {st with known:=bNot b::st.known})else .fail "scope"
   | none=>
   match s.pick with
   | some idx=>if idx.all (fun i=>Nat.blt i st.hp.length)&&decide idx.Nodup then run C n k {st with hp:=idx.map fun i=>st.hp.getD i .emp}else .fail "pick"
   | none=>
   let cnt':=st.cnt.add s.inc
   match unifyFr s.slots st.fr with
   | some eqs=>
    if frSc cnt' s.slots&&s.new.all (Ck.sc cnt')&&s.use.all (fun i=>Nat.blt i st.hp.length)&&decide s.use.Nodup then
     .ghost (s.use.map fun i=>st.hp.getD i .emp) s.inc eqs s.new (run C n k {st with fr:=s.slots++st.fr.filter (fun x=> !(s.slots.any fun y=>y.1==x.1)),hp:=replaceHp st.hp s.use s.new,cnt:=cnt'})
    else .fail "scope"
   | none=> .fail "ghost"
 | n+1,.again body::k,st=>run C n (.code body:: .again body::k) st
 | _+1,.loop up nt c0 inc fr hp bk::_,st=>
  match nilAll C.T st bk with
  | none=> .fail "nil back"
  | some (st,nn)=>
  nilWrap nn <|
  match unifyFr fr st.fr,unifyHp hp st.hp,unifyMK nt.ds st.nt.ds with
  | some a,some b,some d=>if st.nt.n != nt.n then .fail "frame" else .back up c0 inc ((a++b++d).filter fun q=> !q.trivial c0)
  | _,_,none=> .fail "marks"
  | _,_,_=> .fail "back"
 | _+1,.jn _ up nt c0 inc fr hp pre::_,st=>
  match nilAll C.T st pre with
  | none=> .fail "nil join"
  | some (st,nn)=>
  nilWrap nn <|
  match unifyFr fr st.fr,unifyHp hp st.hp,unifyMK nt.ds st.nt.ds with
  | some a,some b,some d=>if st.nt.n != nt.n then .fail "frame" else .meet up c0 inc ((a++b++d).filter fun q=> !q.trivial c0)
  | _,_,none=> .fail "join marks"
  | none,_,_=> .fail "join slots"
  | _,_,_=> .fail "join"
 | n+1,.call fn nt fr d f::k,st=>
  match leaveSt st with
  | some st=>
   match resAll C.T st f with
   | some v=>if okDst (setNt st fn nt fr) d&&v.sc st.cnt then run C n k ((setNt st fn nt fr).put d v)else .fail "destination"
   | none=> .fail "results"
  | none=> .fail "marks"
 | _+1,.top f::_,st=>
  match leaveSt st with
  | some st=>
   match resAll C.T st f with
   | some v=> .ret v st.hp
   | none=> .fail "results"
  | none=> .fail "marks"
 | n+1,.code c::k,st=>
  match c with
  | .skip=>run C n k st
  | .label _=>run C n k st
  | .seq a b=>run C n (.code a:: .code b::k) st
  | .cond x t e=>
   match condOf st.fr st.known x with
   | some (.lit true)=>run C n (.code t::k) st
   | some (.lit false)=>run C n (.code e::k) st
   | some b=>if b.sc st.cnt then .fork b (run C n (.code t::k) {st with known:=b::st.known}) (run C n (.code e::k) {st with known:=bNot b::st.known})else .fail "scope"
   | none=> .fail "cond"
  | .block id b=>
   match C.joins st.fn id with
   | none=>run C n (.code b:: .blk id::k) st
   | some ja=>
    let ws:=writes b
    let slots:=ja.slots st.cnt
    let fr':=slots++st.fr.filter fun x=> !(ws.contains x.1)&& !(slots.any fun y=>y.1==x.1)
    let hp':=ja.hp st.cnt st.hp
    let cnt':=st.cnt.add ja.inc
    let nt':NT:={st.nt with ds:=ja.ds st.cnt st.nt.ds}
    if frSc cnt' slots&&hp'.all (Ck.sc cnt')&&slots.all (fun x=>Nat.blt x.1 st.nt.n)&&nt'.ds.all (MK.sc cnt')then
     .join (nl k) ja.inc (run C n (.code b:: .jn (some id) (nl k) nt' st.cnt ja.inc fr' hp' ja.pre::k) st) (run C n k {st with fr:=fr',hp:=hp',cnt:=cnt',known:=[],nt:=nt'})
    else .fail "scope"
  | .loop body=>
   match k with
   | .blk id::_=>
    match C.loops st.fn id with
    | none=>run C n (.code body:: .again body::k) st
    | some la=>
     match nilAll C.T st la.pre with
     | none=> .fail "nil" id
     | some (st,nn)=>
     nilWrap nn <|
     let ws:=writes body
     let slots:=la.slots st.cnt
     let fr':=slots++st.fr.filter fun x=> !(ws.contains x.1)&& !(slots.any fun y=>y.1==x.1)
     let hp':=la.hp st.cnt st.hp
     let cnt':=st.cnt.add la.inc
     let nt':NT:={st.nt with ds:=la.ds st.cnt st.nt.ds}
     match unifyFr slots st.fr,unifyHp hp' st.hp,unifyMK nt'.ds st.nt.ds with
     | some a,some b,some d=>
      if frSc cnt' slots&&hp'.all (Ck.sc cnt')&&slots.all (fun x=>Nat.blt x.1 st.nt.n)&&nt'.ds.all (MK.sc cnt')then
       .loop (nl k) la.inc ((a++b++d).filter fun q=> !q.trivial st.cnt)
        (run C n (.code body:: .loop (nl k) nt' st.cnt la.inc fr' hp' la.back::k) {st with fr:=fr',hp:=hp',cnt:=cnt',known:=[],nt:=nt'})
      else .fail "scope"
     | _,_,_=> .fail "loop entry" id
   | _=>run C n (.code body:: .again body::k) st
  | .exit id=>match popExit id k with
   | some k'=>run C n k' st
   | none=> .fail "exit" id
  | .ret=>match popRet k with
   | some k'=>run C n k' st
   | none=> .fail "ret"
  | .region id ops false=>
   match C.ghosts st.fn id with
   | none=>run C n (.ops ops ops.toList::k) st
   | some g=>run C n (.ops ops ops.toList:: .gh g::k) st
  | .region id ops true=>
   let pm:=predsB ops (List.range ops.size) []
   if orderedB ops pm&&pmOk ops pm then
    match C.joins st.fn (id+100000)with
    | some ja=>
     let slots:=ja.slots st.cnt
     let fr':=slots++st.fr.filter fun x=> !((writes (.region id ops true)).contains x.1)&& !(slots.any fun y=>y.1==x.1)
     let hp':=ja.hp st.cnt st.hp
     let cnt':=st.cnt.add ja.inc
     let nt':NT:={st.nt with ds:=ja.ds st.cnt st.nt.ds}
     if frSc cnt' slots&&hp'.all (Ck.sc cnt')&&slots.all (fun x=>Nat.blt x.1 st.nt.n)&&nt'.ds.all (MK.sc cnt')then
      .join (nl k) ja.inc (run C n (.dops ops pm (List.range ops.size) 0 []:: .gh ja.gh:: .jn none (nl k) nt' st.cnt ja.inc fr' hp' ja.pre::k) st) (run C n k {st with fr:=fr',hp:=hp',cnt:=cnt',known:=[],nt:=nt'})
     else .fail "scope"
    | none=>
    match C.ghosts st.fn id with
    | none=>run C n (.dops ops pm (List.range ops.size) 0 []::k) st
    | some g=>run C n (.dops ops pm (List.range ops.size) 0 []:: .gh g::k) st
   else .fail "order"
  | .rangeFunc g ps x y=>
   match opEval (look st.fr) g with
   | some (.fn f caps)=>
    match C.FT.find? fun x=>x.1==f with
    | none=> .fail "call" f
    | some (_,fd)=>
     match fd.body with
     | none=> .fail "no body" f
     | some c=>
      if SV.scL st.cnt caps then
       match around k with
       | none=>
        .allRec true (run C n (.code c:: .rf (st.cnt.b+1) st.cnt.r st.fn ⟨st.nt.n,.one st.cnt.b::st.nt.ds⟩ st.fr ps x y fd::k)
         (setNt {st with hp:=st.hp++[.dfr st.cnt.b]++[.lrec (st.cnt.b+1) st.cnt.r .ready .none],cnt:={st.cnt with b:=st.cnt.b+2,r:=st.cnt.r+1}} f ⟨fd.ntmps,[]⟩ (enumFrom 0 (.yld (st.cnt.b+1)::caps))))
       | some l0=>
        match recAt st.hp l0 with
        | some _=>
         .allRec false (run C n (.code c:: .rf st.cnt.b st.cnt.r st.fn st.nt st.fr ps x y fd::k)
          (setNt {st with hp:=st.hp++[.lrec st.cnt.b st.cnt.r .ready .none],cnt:={st.cnt with b:=st.cnt.b+1,r:=st.cnt.r+1}} f ⟨fd.ntmps,[]⟩ (enumFrom 0 (.yld st.cnt.b::caps))))
        | none=> .fail "round"
      else .fail "scope"
   | _=> .fail "range over what"
  | _=> .fail "code"
 | n+1,.ops _ []::k,st=>run C n k st
 | n+1,.ops all (o::rest)::k,st=>
  if okDst st o.dst then
  match guardAt all st.fr st.known o with
  | none=> .fail "guard" (st.fn*1000+o.dst.getD 0)
  | some (some (.lit false))=>run C n (.ops all rest::k) (st.put o.dst .undef)
  | some (some c)=>
   if c.sc st.cnt then
    match stepVal C (some c) st o with
    | some res=>
     match res.eff with
     | .none=>wrapVc (some c) res.vcs st.known (run C n (.ops all rest::k) (st.put o.dst (.opt c res.val)))
     | _=> .fork c (run C n (.ops all ({o with guard:=none}::rest)::k) (st.onC c)) (run C n (.ops all rest::k) ((st.offC c).put o.dst .undef))
    | none=> .fork c (run C n (.ops all ({o with guard:=none}::rest)::k) (st.onC c)) (run C n (.ops all rest::k) ((st.offC c).put o.dst .undef))
   else .fail "scope"
  | some none=>
   match stepVal C none st o with
   | some res=>
    let nx:=run C n (.ops all rest::k) (({applyEff st res.eff with known:=more res.vcs st.known}).put o.dst res.val)
    wrapVc none res.vcs st.known (match res.eff with | .new _=> .allB nx | .app .. => .allV nx | .own .. => .allV nx | .lend .. => .allV nx | _=>nx)
   | none=>
    match callOf C.T (look? none st.known st.fr) o with
    | some (f,az)=>
     match C.FT.find? fun x=>x.1==f with
     | none=> .fail "call" f
     | some (_,fd)=>
      match fd.body with
      | none=>
       match annOf C st.fn (o.dst.getD 0) f with
       | some ca=>
        if(callVal ca az st.hp st.cnt).sc (st.cnt.add ca.inc)&&(ca.new st.cnt ((ca.use az st.hp).map fun i=>st.hp.getD i .emp)).all (Ck.sc (st.cnt.add ca.inc))&&(ca.use az st.hp).all (fun i=>Nat.blt i st.hp.length)&&decide (ca.use az st.hp).Nodup then
         .ext f az ((ca.use az st.hp).map fun i=>st.hp.getD i .emp) ca.inc (callVal ca az st.hp st.cnt) (ca.new st.cnt ((ca.use az st.hp).map fun i=>st.hp.getD i .emp))
          (run C n (.ops all rest::k) ({st with hp:=replaceHp st.hp (ca.use az st.hp) (ca.new st.cnt ((ca.use az st.hp).map fun i=>st.hp.getD i .emp)),cnt:=st.cnt.add ca.inc}.put o.dst (callVal ca az st.hp st.cnt)))
        else .fail "scope"
       | none=> .fail "no body" f
      | some c=>
       match pureRes C f az st.hp with
       | some r=>
        if r.val.sc st.cnt&&r.new.all (Ck.sc st.cnt)&&r.use.all (fun i=>Nat.blt i st.hp.length)&&decide r.use.Nodup then
         wrapVc none r.vcs st.known (run C n (.ops all rest::k) ({st with hp:=replaceHp st.hp r.use r.new}.put o.dst r.val))
        else .fail "scope"
       | none=>
       match annOf C st.fn (o.dst.getD 0) f with
       | some ca=>
        let use:=ca.use az st.hp
        let new:=ca.new st.cnt (use.map fun i=>st.hp.getD i .emp)
        let v:=callVal ca az st.hp st.cnt
        let cnt':=st.cnt.add ca.inc
        if v.sc cnt'&&new.all (Ck.sc cnt')&&use.all (fun i=>Nat.blt i st.hp.length)&&decide use.Nodup then
         .call f az (use.map fun i=>st.hp.getD i .emp) ca.inc v new (run C n (.ops all rest::k) ({st with hp:=replaceHp st.hp use new,cnt:=cnt'}.put o.dst v))
        else .fail "scope"
       | none=>
        if SV.scL st.cnt az then run C n (.code c:: .call st.fn st.nt st.fr o.dst fd:: .ops all rest::k) (setNt st f ⟨fd.ntmps,[]⟩ (enumFrom 0 az))else .fail "scope"
    | none=>
    match yldOf (look st.fr) o with
    | some (l,az)=>
     match findRec l k,recAt st.hp l with
     | some (r,fn,nt,fr,ps,x,y),some (_,r',_,_)=>
      if r=r'&&az.length==ps.size then
       match putAll (setNt st fn ⟨nt.n,[]⟩ fr) (ps.toList.zip az)with
       | some st1=>run C n (.code x:: .begin l:: .code y:: .round l st.fn st.nt st.fr o.dst:: .ops all rest::k) st1
       | none=> .fail "slot"
      else .fail "yield"
     | _,_=> .fail "yield"
    | none=> .fail "op" (st.fn*1000+o.dst.getD 0)
  else .fail "slot"
 | n+1,.rf l _ fn nt fr _ _ _ fd::k,st=>
  match leaveSt st with
  | some st=>
   match resAll C.T st fd,recAt st.hp l with
   | some _,some (i,r,s,j)=>
    if s= .busy then .fail "busy" else
    match j with
    | .none=>run C n k (setNt {st with hp:=st.hp.set i (.lrec l r .exhausted j)} fn nt fr)
    | .ret=>run C n (.code .ret::k) (setNt {st with hp:=st.hp.set i (.lrec l r .exhausted j)} fn nt fr)
    | .exit id=>run C n (.code (.exit id)::k) (setNt {st with hp:=st.hp.set i (.lrec l r .exhausted j)} fn nt fr)
   | _,_=> .fail "results"
  | none=> .fail "marks"
 | n+1,.begin l::k,st=>
  match recAt st.hp l with
  | some (i,r,.ready,j)=>run C n k {st with hp:=st.hp.set i (.lrec l r .busy j)}
  | _=> .fail "not ready"
 | n+1,.round l fn nt fr d::k,st=>run C n (.roundEnd l .none fn nt fr d::k) st
 | n+1,.roundEnd l j fn nt fr d::k,st=>
  match recAt st.hp l with
  | some (i,r,_,_)=>
   if okDst (setNt st fn nt fr) d then
    run C n k ((setNt {st with hp:=st.hp.set i (.lrec l r (if j= .none then .ready else .done) j)} fn nt fr).put d (.bool (.lit (decide (j= .none)))))
   else .fail "slot"
  | none=> .fail "record"
 | n+1,.dops all pm rest done log::k,st=>
  match rest with
  | []=>run C n k st
  | _=>
   match rest.find? fun i=>isQuiet all i&&readyB all done i with
   | some i=>
    match all[i]? with
    | some o=>
     if okDst st o.dst then
      match guardAt all (restrict st.fr (slotsOf all o)) st.known o with
      | none=> .fail "guard" i
      | some g=>
       if gsc st.cnt g then
        match stepQ C g {st with fr:=restrict st.fr (slotsOf all o)} o with
        | some res=>
         match res.eff with
         | .none=>
          wrapVc g res.vcs st.known (run C n (.dops all pm (rest.filter fun j=>j != i) (done|||(1 <<< i)) ((i,res.rd)::log)::k)
           (({st with known:=gknown g res.vcs st.known}).put o.dst (gval g res.val)))
         | _=> .fail "effect" i
        | none=> .fail "quiet" i
       else .fail "scope"
     else .fail "slot"
    | none=> .fail "no op"
   | none=>
    bothF ((rest.filter (readyB all done)).map fun e=>
     match all[e]? with
     | some o=>
      if okDst st o.dst then run C n (.ops all [o]:: .dret all pm e rest done log st.fn st.nt st.fr st.hp st.cnt::k) {st with fr:=restrict st.fr (slotsOf all o)}else .fail "slot"
     | none=> .fail "no op")
 | n+1,.dret all pm e rest done log fn nt fr hp cnt::k,st=>
  match all[e]? with
  | some o=>
   if(log.all fun x=>(pm.getD e 0).testBit x.1||kept cnt hp st.hp x.2)&&st.nt==nt then
    match (match o.dst with | some d=>look st.fr d | none=>some .undef)with
    | some v=>run C n (.dops all pm (rest.filter fun j=>j != e) (done|||(1 <<< e)) log::k) ((setNt st fn nt fr).put o.dst v)
    | none=> .fail "result"
   else .fail "read beside"
  | none=> .fail "no op"
def runF(C:Ctx)(f:Nat)(args:List SV)(hp:List Ck)(cnt:Cnt)(fd:Func):F:=
 match fd.body with
 | some c=>if SV.scL cnt args&&hp.all (Ck.sc cnt)then run C 100000 [.code c,.top fd] {fn:=f,fr:=enumFrom 0 args,hp:=hp,cnt:=cnt,nt:=⟨fd.ntmps,[]⟩}else .fail "scope"
 | none=> .fail "no body"
end Go.RX
