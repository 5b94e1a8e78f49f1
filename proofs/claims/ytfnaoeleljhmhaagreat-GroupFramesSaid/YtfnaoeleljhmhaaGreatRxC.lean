/- A reflective symbolic executor, part 3: what one operation does, symbolically. -/
import Derived.Test.YtfnaoeleljhmhaaGreatM00

namespace Go.RX
inductive CK where
 | int (k:IntKind) | bool | val (i:Nat) | ptr | nils | str | cv | sv | ix (i:Nat) | vls (l:List Nat) | pt (i:E) (v:Nat)
 deriving DecidableEq,Repr
structure Col where
 ck:CK
 w:Nat
 a:E
 deriving DecidableEq,Repr
inductive Jump where
 | none | ret | exit (id:Nat)
 deriving DecidableEq,Repr
def Jump.code:Jump→Option Code
 | .none=>Option.none
 | .ret=>some .ret
 | .exit id=>some (.exit id)
inductive RS where
 | ready | busy | done | exhausted
 deriving DecidableEq,Repr
def RS.st:RS→LoopState
 | .ready=> .ready
 | .busy=> .busy
 | .done=> .done
 | .exhausted=> .exhausted
inductive Ck where
 | emp
 | row (b:Nat) (wr:Bool) (cs:List SV)
 | sli (md:Bool) (v t s:Nat) (n:E) (cols:List Col)
 | abs (i:Nat)
 | lrec (l r:Nat) (s:RS) (j:Jump)
 | dfr (b:Nat)
 | dfrs (b:Nat)
 | map (b:Nat) (kl:List IntKind) (ka va:Bool) (zero:List SV) (has:E) (cols:List Col)
 | mapl (b:Nat) (kl:List IntKind) (ka va:Bool) (zero:List SV) (es:List (Nat×List SV))
 | bld (b t e:Nat) (n a:E)
 | sit (b:Nat) (l:List UInt8) (pos:Nat)
 | mit (b m:Nat)
 deriving Repr,Inhabited
def colI(k:IntKind)(w:Nat)(f:Nat→Int)(i:Nat):List Value:=segCells k w fun j=>f (i*w+j)
def colB(w:Nat)(f:Nat→Int)(i:Nat):List Value:=(List.range w).map fun j=> .bool (!(f (i*w+j)==0))
def colV(w:Nat)(f:Nat→Value)(i:Nat):List Value:=(List.range w).map fun j=>f (i*w+j)
def colP(w:Nat)(f:Nat→Int)(i:Nat):List Value:=(List.range w).map fun j=>ptrV (f (i*w+j))
def Col.cells(ρ:Env)(c:Col):Nat→List Value:=
 match c.ck with
 | .int k=>colI k c.w (c.a.den ρ)
 | .bool=>colB c.w (c.a.den ρ)
 | .val v=>colV c.w fun j=>((ρ.va.getD v fun _=>V1.nil) j).v
 | .ptr=>colP c.w (c.a.den ρ)
 | .nils=>colV c.w fun _=> .slice none 0 0
 | .str=>colV c.w fun j=> .string ⟨(strD (at2F (c.a.den ρ) j)).toArray⟩
 | .cv=>colV c.w fun j=>bslV (c.a.den ρ j)
 | .sv=>colV c.w fun j=> .string ⟨(sDec (c.a.den ρ j)).toArray⟩
 | .ix i=>colV c.w fun j=>((ρ.va.getD i fun _=>V1.nil) (c.a.den ρ j).toNat).v
 | .vls l=>colV c.w fun j=>((l[j]?).elim V1.nil fun n=>ρ.vv.getD n V1.nil).v
 | .pt i v=>colV c.w fun j=>if j=(i.den ρ 0).toNat then(ρ.vv.getD v V1.nil).v else bslV (c.a.den ρ j)
def tabL(n:Nat)(cs:List (Nat→List Value)):List Value:=(List.range n).flatMap fun i=>cs.flatMap fun c=>c i
def tabCells(ρ:Env)(n:Nat)(cols:List Col):List Value:=tabL n (cols.map (Col.cells ρ))
def rowL(es:List (Nat×List SV))(zero:List SV)(k:Nat):List SV:=
 match es with
 | []=>zero
 | (i,v)::r=>if i=k then v else rowL r zero k
def hasL(es:List (Nat×List SV))(k:Nat):Bool:=
 match es with
 | []=>false
 | (i,_)::r=>if i=k then true else hasL r k
def putL(k:Nat)(v:List SV):List (Nat×List SV)→List (Nat×List SV)
 | []=>[(k,v)]
 | (i,u)::r=>if i=k then(k,v)::r else(i,u)::putL k v r
def rowN(es:List (Nat×List Value))(zero:List Value)(k:Nat):List Value:=
 match es with
 | []=>zero
 | (i,v)::r=>if i=k then v else rowN r zero k
def cellsN(ρ:Env)(es:List (Nat×List SV)):List (Nat×List Value):=
 match es with
 | []=>[]
 | (i,v)::r=>(i,SV.cellsL ρ v)::cellsN ρ r
theorem rowN_eq(ρ:Env)(zero:List SV)(k:Nat): ∀es:List (Nat×List SV),rowN (cellsN ρ es) (SV.cellsL ρ zero) k=SV.cellsL ρ (rowL es zero k)
 | []=>rfl
 | (i,v)::r=>by simp only [cellsN,rowN,rowL];split<;>first | rfl | exact rowN_eq ρ zero k r
def loop0:Loop:=⟨.ready,none,0,#[],#[],.skip,.skip,0⟩
noncomputable def Ck.den(ρ:Env):Ck→HP
 | .emp=>HP.emp
 | .row b wr cs=>rowHP (ρ.bv.getD b 0) wr (SV.cellsL ρ cs)
 | .sli md v t s n cols=>sliHP md t s (ρ.vv.getD v V1.nil).v (n.den ρ 0).toNat (tabCells ρ (n.den ρ 0).toNat cols)
 | .abs i=>ρ.pv.getD i HP.emp
 | .lrec l r s j=>recHP (ρ.bv.getD l 0) {ρ.lr.getD r loop0 with state:=s.st,pending:=j.code}
 | .dfr b=>dfrHP (ρ.bv.getD b 0)
 | .dfrs b=>dfrsHP (listOf (ρ.bv.getD b 0))
 | .map b kl ka va zero has cols=>mapNHP (ρ.bv.getD b 0) kl ka va (SV.cellsL ρ zero) (has.den ρ) fun i=>(cols.map (Col.cells ρ)).flatMap fun c=>c i
 | .mapl b kl ka va zero es=>mapHP (ρ.bv.getD b 0) kl ka va (SV.cellsL ρ zero) (fun i=>hasL es i) fun i=>rowN (cellsN ρ es) (SV.cellsL ρ zero) i
 | .bld b t e n a=>bldHP (ρ.bv.getD b 0) t e (segCells .u8 (n.den ρ 0).toNat (a.den ρ))
 | .sit b l pos=>sitHP (ρ.bv.getD b 0) l pos
 | .mit b m=>mitHP (ρ.bv.getD b 0) (ρ.bv.getD m 0)
theorem Ck.den_mapl(ρ:Env)(b:Nat)(kl:List IntKind)(ka va:Bool)(zero:List SV)(es:List (Nat×List SV)):
  Ck.den ρ (.mapl b kl ka va zero es)=mapHP (ρ.bv.getD b 0) kl ka va (SV.cellsL ρ zero) (fun i=>hasL es i) fun i=>SV.cellsL ρ (rowL es zero i):=by
 simp only [Ck.den,rowN_eq]
inductive TK where
 | int (k:IntKind) | bool | str | ptr (e:Nat) | slice (e:Nat) | arr (n e:Nat) | struct (fs:List (Nat×Nat)) | map (k e:Nat) | func | iface | bld (fs:List (Nat×Nat)) (e:Nat)
 deriving DecidableEq,Repr
inductive CellK where
 | int (k:IntKind) | bool | str
 deriving DecidableEq,Repr
structure TI where
 t:Nat
 k:TK
 size:Nat
 bytes:Nat
 zero:List SV
 lay:List (CellK×Nat):=[]
 ms:List (String×Nat):=[]
 deriving Repr
def layCells{α:Type}:List (α×Nat)→List α
 | []=>[]
 | (k,n)::r=>List.replicate n k++layCells r
def fitLay:List SV→List CellK→Bool
 | [],[]=>true
 | .int k _::r,.int k'::l=>k==k'&&fitLay r l
 | .bool _::r,.bool::l=>fitLay r l
 | .str _::r,.str::l=>fitLay r l
 | .strE _::r,.str::l=>fitLay r l
 | .seg k n _::r,l=>decide (n≤l.length)&&(l.take n).all (· == .int k)&&fitLay r (l.drop n)
 | _,_=>false
def tlook(T:List TI)(t:Nat):Option TI:=T.find? fun i=>i.t==t
def TK.agg:TK→Bool
 | .arr .. =>true
 | .struct _=>true
 | .bld .. =>true
 | _=>false
def eAdd:E→E→E
 | .lit a,.lit b=> .lit (a+b)
 | .lit 0,b=>b
 | a,.lit 0=>a
 | a,b=> .bin .add .i64 a b
def eSub:E→E→E
 | .lit a,.lit b=> .lit (a - b)
 | a,.lit 0=>a
 | a,b=> .bin .sub .i64 a b
def eMul:E→E→E
 | .lit a,.lit b=> .lit (a*b)
 | .lit 1,b=>b
 | a,.lit 1=>a
 | a,b=> .bin .mul .i64 a b
def eShift:E→E→E
 | a,.lit 0=>a
 | .lit n,_=> .lit n
 | a,o=> .shift a o
def E.scal:E→Bool
 | .lit _=>true
 | .var _=>true
 | .sel .. =>true
 | .bin .. =>true
 | .wrap .. =>true
 | .kc .. =>true
 | .blk _=>true
 | _=>false
def scalOf(v:E):E:=if v.scal then v else .sel v (.lit 0)
def eAt2:E→E→E
 | .lit n,_=> .lit n
 | .put2 a (.lit j) s,.lit i=>if i.toNat=j.toNat then s else eAt2 a (.lit i)
 | .put2 a j s,i=>if i=j then s else .at2 (.put2 a j s) i
 | a,i=> .at2 a i
def eSel:E→E→E
 | .lit n,_=> .lit n
 | .rowl l,.lit i=> .lit (l.getD i.toNat 0)
 | .upd b (.lit j) v,.lit i=>if i.toNat=j.toNat then scalOf v else eSel b (.lit i)
 | .shift b (.lit o),.lit i=>eSel b (.lit (o.toNat+i.toNat:Nat))
 | .spl b (.lit o) (.lit n) x,.lit i=>if o.toNat≤i.toNat∧i.toNat<o.toNat+n.toNat then eSel x (.lit (i.toNat - o.toNat:Nat))else eSel b (.lit i)
 | .upd b i v,i'=>if i=i' then scalOf v else .sel (.upd b i v) i'
 | a,i=> .sel a i
def eBin(o:IOp)(k:IntKind):E→E→E
 | .lit a,.lit b=> .lit (iop o k a b)
 | a,b=> .bin o k a b
def eWrap(k:IntKind):E→E
 | .lit a=> .lit (k.wrap a)
 | a=> .wrap k a
def bNz:E→BE
 | .lit n=> .lit (!(n==0))
 | a=> .nz a
def bEq:E→E→BE
 | .lit a,.lit b=> .lit (a==b)
 | a,b=>if a=b then .lit true else .eq a b
def bLt:E→E→BE
 | .lit a,.lit b=> .lit (decide (a<b))
 | a,b=> .lt a b
def bLe:E→E→BE
 | .lit a,.lit b=> .lit (decide (a≤b))
 | a,b=> .le a b
def bNot:BE→BE
 | .lit b=> .lit (!b)
 | .not b=>b
 | b=> .not b
def bAnd:BE→BE→BE
 | .lit true,b=>b
 | .lit false,_=> .lit false
 | a,.lit true=>a
 | a,b=> .and a b
def bOr:BE→BE→BE
 | .lit false,b=>b
 | .lit true,_=> .lit true
 | a,.lit false=>a
 | a,b=> .or a b
def bIte:BE→BE→BE→BE
 | .lit true,a,_=>a
 | .lit false,_,b=>b
 | c,.lit true,b=>bOr c b
 | c,a,.lit false=>bAnd c a
 | c,a,b=> .ite c a b
def rowB(l:List UInt8):E:= .rowl ((l.length:Int)::l.map fun b=>((b.toNat:Nat):Int))
def toStrE:SV→Option E
 | .str l=>some (rowB l)
 | .strE s=>some s
 | _=>none
def mkStr:E→SV
 | .rowl (n::l)=>if(n==(l.length:Int))&&l.all (fun b=>decide (0≤b)&&decide (b<256))then .str (l.map fun b=>UInt8.ofNat b.toNat)else .strE (.rowl (n::l))
 | s=> .strE s
def eLen(s:E):E:=eSel s (.lit 0)
def eSby:E→E
 | .rowl (n::l)=>if l.all (fun b=>decide (0≤b)&&decide (b<256))then .rowl l else .sby (.rowl (n::l))
 | s=> .sby s
def eBytes(a n:E):E:= .upd (.spl (.lit 0) (.lit 1) n a) (.lit 0) n
def eSub2(s lo hi:E):E:=
 match s with
 | .upd x (.lit 0) _=> .upd (eShift x lo) (.lit 0) (eSub hi lo)
 | s=> .upd (eShift s lo) (.lit 0) (eSub hi lo)
def eCat(s t:E):E:= .upd (.spl s (eAdd (eLen s) (.lit 1)) (eLen t) (eShift t (.lit 1))) (.lit 0) (eAdd (eLen s) (eLen t))
def bSeq(a b:E):BE:=if a=b then .lit true else .seq a b
mutual
def SV.width:SV→Nat
 | .seg _ n _=>n
 | .agg cs=>SV.widthL cs
 | _=>1
def SV.widthL:List SV→Nat
 | []=>0
 | v::r=>SV.width v+SV.widthL r
end
abbrev rowLen(cs:List SV):Nat:=SV.widthL cs
def rowDrop:Nat→List SV→Option (List SV)
 | 0,cs=>some cs
 | _+1,[]=>some []
 | _+1,.agg _::_=>none
 | d+1,.seg k n a::r=>if d+1<n then some (.seg k (n - (d+1)) (eShift a (.lit (d+1:Nat)))::r)else rowDrop (d+1 - n) r
 | d+1,_::r=>rowDrop d r
def rowTake:Nat→List SV→Option (List SV)
 | 0,_=>some []
 | _+1,[]=>some []
 | _+1,.agg _::_=>none
 | d+1,.seg k n a::r=>if d+1≤n then some [.seg k (d+1) a]else(rowTake (d+1 - n) r).map (.seg k n a:: ·)
 | d+1,v::r=>(rowTake d r).map (v:: ·)
def rowCut(c size:Nat)(cs:List SV):Option (List SV):=
 if c+size≤rowLen cs then
  match rowDrop c cs with
  | some r=>rowTake size r
  | none=>none
 else none
def rowPut(c:Nat)(vs cs:List SV):Option (List SV):=
 if c+rowLen vs≤rowLen cs then
  match rowTake c cs,rowDrop (c+rowLen vs) cs with
  | some a,some b=>some (a++vs++b)
  | _,_=>none
 else none
def ofCells(agg:Bool)(cs:List SV):Option SV:=
 if agg then some (.agg cs)else
 match cs with
 | [.seg k 1 a]=>some (.int k (eSel a (.lit 0)))
 | [.seg ..]=>none
 | [.agg _]=>none
 | [v]=>some v
 | _=>none
def SV.one:SV→Bool
 | .agg _=>false
 | .opt .. =>false
 | .undef=>false
 | .tup _=>false
 | _=>true
def toCells:SV→Option (List SV)
 | .agg cs=>if cs.all SV.one then some cs else none
 | v=>if v.one then some [v]else none
mutual
def ofValue:Value→Option SV
 | .int k n=>some (.int k (.lit n))
 | .bool b=>some (.bool (.lit b))
 | .pointer none=>some .nilp
 | .slice none 0 0=>some .nils
 | .nilFunc=>some .nilf
 | .nilIface=>some .nili
 | .map none=>some .nilm
 | .string ⟨⟨l⟩⟩=>some (.str l)
 | .tuple ⟨[]⟩=>some .undef
 | .agg ⟨l⟩=>(ofValues l).map .agg
 | _=>none
def ofValues:List Value→Option (List SV)
 | []=>some []
 | .agg _::_=>none
 | v::r=>match ofValue v,ofValues r with
  | some x,some xs=>some (x::xs)
  | _,_=>none
end
def opEval(look:Nat→Option SV):Operand→Option SV
 | .tmp t=>look t
 | .const v=>ofValue v
 | .global _=>none
 | .func f=>some (.fn f [])
def Ck.isAt(b:Nat):Ck→Bool
 | .row b' _ _=>b==b'
 | _=>false
def Ck.ownOf(v:Nat):Ck→Bool
 | .sli _ v' _ _ _ _=>v==v'
 | _=>false
def findAt(hp:List Ck)(b:Nat):Option (Nat×Ck):=
 match hp.findIdx? (Ck.isAt b)with
 | some i=>(hp[i]?).map fun c=>(i,c)
 | none=>none
def findOwn(hp:List Ck)(v:Nat):Option (Nat×Ck):=
 match hp.findIdx? (Ck.ownOf v)with
 | some i=>(hp[i]?).map fun c=>(i,c)
 | none=>none
def inRange(i n:E):List BE:=
 [bLe (.lit 0) i,bLt i n].filter fun b=>b != .lit true
def mkP:E→SV
 | .blk b=> .ptr b 0
 | .lit n=>if n=0 then .nilp else .ptrE (.lit n)
 | e=> .ptrE e
def mkSv:E→SV
 | .lit z=> .str (sDec z)
 | e=> .strE (.srow e)
def litNat:E→Option Nat
 | .lit (.ofNat n)=>some n
 | _=>none
def colElem(c:Col)(i:E):Option SV:=
 match c.ck with
 | .int k=>if c.w=1 then some (.int k (eSel c.a i))else some (.seg k c.w (eShift c.a (eMul i (.lit c.w))))
 | .bool=>if c.w=1 then some (.bool (bNz (eSel c.a i)))else none
 | .val v=>if c.w=1 then some (.vsel v i)else none
 | .ptr=>if c.w=1 then some (mkP (eSel c.a i))else none
 | .nils=>if c.w=1 then some .nils else none
 | .str=>if c.w=1 then some (mkStr (eAt2 c.a i))else none
 | .cv=>if c.w=1 then some (.cvE (eSel c.a i))else none
 | .sv=>if c.w=1 then some (mkSv (eSel c.a i))else none
 | .ix _=>none
 | .vls l=>match litNat i with
  | some k=>match l[k]? with
   | some n=>if c.w=1 then some (.vv n)else none
   | none=>none
  | none=>none
 | .pt j v=>if c.w=1∧j=i then some (.vv v)else none
def colElems(i:E):List Col→Option (List SV)
 | []=>some []
 | c::r=>match colElem c i,colElems i r with
  | some x,some xs=>some (x::xs)
  | _,_=>none
def colsW(cols:List Col):Nat:=(cols.map Col.w).sum
def colPut1(i:E)(v:SV)(c:Col):Option Col:=
 match c.ck,v with
 | .int k,.int k' e=>if c.w=1∧k=k' then some {c with a:= .upd c.a i e}else none
 | .int k,.seg k' n b=>if c.w=n∧k=k' then some {c with a:= .spl c.a (eMul i (.lit n)) (.lit n) b}else none
 | .bool,.bool (.lit x)=>if c.w=1 then some {c with a:= .upd c.a i (.lit (if x then 1 else 0))}else none
 | .bool,.bool (.nz e)=>if c.w=1 then some {c with a:= .upd c.a i e}else none
 | .ptr,.ptr b o=>if c.w=1∧o=0 then some {c with a:= .upd c.a i (.blk b)}else none
 | .ptr,.nilp=>if c.w=1 then some {c with a:= .upd c.a i (.lit 0)}else none
 | .ptr,.ptrE e=>if c.w=1 then some {c with a:= .upd c.a i e}else none
 | .nils,.nils=>if c.w=1 then some c else none
 | .str,.str l=>if c.w=1 then some {c with a:= .put2 c.a i (rowB l)}else none
 | .str,.strE s=>if c.w=1 then some {c with a:= .put2 c.a i s}else none
 | .sv,.str l=>if c.w=1 then some {c with a:= .upd c.a i (.lit (sCode l:Nat))}else none
 | .sv,.strE (.srow e)=>if c.w=1 then some {c with a:= .upd c.a i e}else none
 | .sv,.strE e=>if c.w=1 then some {c with a:= .upd c.a i (.scd e)}else none
 | .cv,.cvE e=>if c.w=1 then some {c with a:= .upd c.a i e}else none
 | .cv,.nils=>if c.w=1 then some {c with a:= .upd c.a i (.lit 0)}else none
 | .cv,.vv v=>if c.w=1 then some {c with ck:= .pt i v}else none
 | .pt j _,.vv v=>if c.w=1∧j=i then some {c with ck:= .pt j v}else none
 | _,_=>none
def rowGo:Nat→E→List SV→Option (List IntKind×E)
 | _,acc,[]=>some ([],acc)
 | o,acc,.int k e::r=>match rowGo (o+1) (.upd acc (.lit o) e) r with
  | some (l,a)=>some (k::l,a)
  | none=>none
 | o,acc,.seg k n b::r=>match rowGo (o+n) (.spl acc (.lit o) (.lit n) b) r with
  | some (l,a)=>some (List.replicate n k++l,a)
  | none=>none
 | _,_,_=>none
def rowOf(cs:List SV):Option (List IntKind×E):=
 match cs with
 | [.seg k n a]=>some (List.replicate n k,a)
 | [.int k e]=>some ([k],e)
 | cs=>rowGo 0 (.lit 0) cs
def align:List Col→List SV→Option (List SV)
 | _,[]=>some []
 | [],v::r=>some (v::r)
 | c::cols,v::r=>
  if v.width=c.w then(align cols r).map (v:: ·)else
  match c.ck,rowCut 0 c.w (v::r),rowDrop c.w (v::r)with
  | .int k,some x,some rest=>
   match rowOf x with
   | some (kl,a)=>if kl=List.replicate c.w k then(align cols rest).map (.seg k c.w a:: ·)else none
   | none=>none
  | _,_,_=>none
def colPuts0(i:E):List SV→List Col→Option (List Col)
 | [],cols=>some cols
 | v::r,c::cols=>match colPut1 i v c,colPuts0 i r cols with
  | some c',some cols'=>some (c'::cols')
  | _,_=>none
 | _::_,[]=>none
def colPuts(i:E)(vs:List SV)(cols:List Col):Option (List Col):=
 match align cols vs with
 | some vs'=>colPuts0 i vs' cols
 | none=>none
def colPutAt(i:E)(vs:List SV):Nat→List Col→Option (List Col)
 | 0,cols=>colPuts i vs cols
 | _+1,[]=>none
 | o+1,c::r=>if c.w≤o+1 then(colPutAt i vs (o+1 - c.w) r).map (c:: ·)else none
def segAt(c:Nat)(cs:List SV):Option (List SV×IntKind×Nat×E×List SV):=
 if c≤rowLen cs then
  match rowDrop c cs,rowTake c cs with
  | some (.seg k n a::r),some pre=>some (pre,k,n,a,r)
  | _,_=>none
 else none
inductive Eff where
 | none
 | new (ck:Ck)
 | set (i:Nat) (ck:Ck)
 | app (i:Nat) (ck:Ck)
 | own (ck:Ck)
 | lend (ck:Ck)
 deriving Repr
structure Res where
 val:SV
 vcs:List BE:=[]
 rd:List Nat:=[]
 eff:Eff:= .none
 deriving Repr
def strBin(o:BinOp)(x y:SV):Option Res:=
 match x,y with
 | .str a,.str b=>
  match o with
  | .add=>if a.length+b.length≤1000000 then some {val:= .str (a++b)}else none
  | .eql=>some {val:= .bool (.lit (a==b))}
  | .neq=>some {val:= .bool (.lit (!(a==b)))}
  | _=>none
 | x,y=>
  match toStrE x,toStrE y with
  | some a,some b=>
   match o with
   | .add=>some {val:= .strE (eCat a b),vcs:=nonNegS (eLen a)++nonNegS (eLen b)++[bLe (eAdd (eLen a) (eLen b)) (.lit 9223372036854775807)]}
   | .eql=>some {val:= .bool (bSeq a b)}
   | .neq=>some {val:= .bool (bNot (bSeq a b))}
   | _=>none
  | _,_=>none
 where nonNegS (b:E):List BE:=[bLe (.lit 0) b].filter fun b=>b != .lit true
def idxStr(v:SV)(j:E):Option Res:=
 match v with
 | .str l=>
  match j with
  | .lit (.ofNat i)=>if i<l.length then some {val:= .int .u8 (.lit (l.getD i 0).toNat)}else none
  | j=>some {val:= .int .u8 (eSel (.rowl (l.map fun b=>((b.toNat:Nat):Int))) j),vcs:=[bLe (.lit 0) j,bLt j (.lit l.length)].filter fun b=>b != .lit true}
 | .strE s=>some {val:= .int .u8 (eSel (eSby s) j),vcs:=[bLe (.lit 0) j,bLt j (eLen s)].filter fun b=>b != .lit true}
 | _=>none
def sliceE(s a b:E):Res:={val:= .strE (eSub2 s a b),vcs:=leS (.lit 0) a++leS a b++leS b (eLen s)}
 where leS (a b:E):List BE:=if a=b then []else [bLe a b].filter fun b=>b != .lit true
def sliceStr(v:SV)(lo hi:Option E):Option Res:=
 match v with
 | .str l=>
  match lo.getD (.lit 0),hi.getD (.lit l.length)with
  | .lit (.ofNat a),.lit (.ofNat b)=>if a≤b∧b≤l.length then some {val:= .str ((l.take b).drop a)}else none
  | a,b=>some (sliceE (rowB l) a b)
 | .strE s=>some (sliceE s (lo.getD (.lit 0)) (hi.getD (eLen s)))
 | _=>none
structure Cnt where
 b:Nat:=0
 v:Nat:=0
 i:Nat:=0
 a:Nat:=0
 bo:Nat:=0
 p:Nat:=0
 r:Nat:=0
 deriving Repr,DecidableEq
def mkPtr(b:Nat)(i:E)(s c:Nat):SV:=
 match litNat i with
 | some n=> .ptr b (n*s+c)
 | none=> .ptri b i s c
def bLe'(a b:E):List BE:=if a=b then []else [bLe a b].filter fun b=>b != .lit true
def strGo:Nat→E→List SV→Option E
 | _,acc,[]=>some acc
 | o,acc,.str l::r=>strGo (o+1) (.put2 acc (.lit o) (rowB l)) r
 | o,acc,.strE s::r=>strGo (o+1) (.put2 acc (.lit o) s) r
 | _,_,_=>none
def strTab(cs:List SV):Option E:=strGo 0 (.lit 0) cs
def loadSym(hp:List Ck)(agg:Bool)(size:Nat):SV→Option Res
 | .ptr b c=>
  match findAt hp b with
  | some (j,.row _ _ cs)=>
   match rowCut c size cs with
   | some x=>(ofCells agg x).map fun v=>{val:=v,rd:=[j]}
   | none=>none
  | _=>none
 | .ptri b i s c=>
  match findAt hp b with
  | some (j,.row _ _ cs)=>
   if s=1∧size=1∧agg=false then
    match segAt c cs with
    | some (_,k,n,a,_)=>some {val:= .int k (eSel a i),vcs:=inRange i (.lit n),rd:=[j]}
    | none=>if c=0 then match strTab cs with
     | some a=>some {val:=mkStr (eAt2 a i),vcs:=inRange i (.lit cs.length),rd:=[j]}
     | none=>none
     else none
   else none
  | _=>none
 | .pv v i s c=>
  match findOwn hp v with
  | some (j,.sli _ _ _ s' n cols)=>
   if s=s'∧s=colsW cols then
    if s<size then
     match cols with
     | [⟨.int k,1,a⟩]=>if c=0∧agg=true then some {val:= .agg [.seg k size (eShift a i)],vcs:=bLe' (.lit 0) i++bLe' (eAdd i (.lit size)) n,rd:=[j]}else none
     | _=>none
    else
    match colElems i cols with
    | some es=>match rowCut c size es with
     | some y=>(ofCells agg y).map fun x=>{val:=x,vcs:=inRange i n,rd:=[j]}
     | none=>none
    | none=>none
   else none
  | _=>none
 | _=>none
def storeSym(hp:List Ck)(size:Nat)(v:SV):SV→Option Res
 | .ptr b c=>
  match findAt hp b,toCells v with
  | some (j,.row b' true cs),some vs=>
   if rowLen vs=size then
    (rowPut c vs cs).map fun cs'=>{val:= .undef,rd:=[j],eff:= .set j (.row b' true cs')}
   else none
  | _,_=>none
 | .ptri b i s c=>
  match findAt hp b,toCells v with
  | some (j,.row b' true cs),some [.int k e]=>
   if s=1∧size=1 then
    match segAt c cs with
    | some (pre,k',n,a,post)=>if k=k' then some {val:= .undef,vcs:=inRange i (.lit n),rd:=[j],eff:= .set j (.row b' true (pre++ .seg k n (.upd a i e)::post))}else none
    | none=>none
   else none
  | _,_=>none
 | .pv x i s c=>
  match findOwn hp x,toCells v with
  | some (j,.sli true x' t s' n cols),some vs=>
   if s=s'∧s=colsW cols∧0<size∧rowLen vs=size then
    (colPutAt i vs c cols).map fun cols'=>{val:= .undef,vcs:=inRange i n,rd:=[j],eff:= .set j (.sli true x' t s' n cols')}
   else none
  | _,_=>none
 | _=>none
def cellsEq:List SV→List SV→Option BE
 | [],[]=>some (.lit true)
 | .int k a::r,.int k' b::r'=>if k=k' then(cellsEq r r').map (bAnd (bEq a b))else none
 | .bool a::r,.bool b::r'=>(cellsEq r r').map (bAnd (bIte a b (bNot b)))
 | .seg k n a::r,.seg k' n' b::r'=>if k=k'∧n=n' then(cellsEq r r').map (bAnd (if a=b then .lit true else .aeq n a b))else none
 | x::r,y::r'=>match toStrE x,toStrE y with
  | some a,some b=>(cellsEq r r').map (bAnd (bSeq a b))
  | _,_=>none
 | _,_=>none
def expandR:List SV→List SV
 | []=>[]
 | .seg k n a::r=>((List.range n).map fun j:Nat=>SV.int k (eSel a (.lit j)))++expandR r
 | v::r=>v::expandR r
def cellsEqX(a b:List SV):Option BE:=
 match cellsEq a b with
 | some c=>some c
 | none=>cellsEq (expandR a) (expandR b)
def ptrEq(k:TK)(x y:SV):Option BE:=
 match k,x,y with
 | .ptr _,.nilp,.nilp=>some (.lit true)
 | .ptr _,.nilp,.ptr .. =>some (.lit false)
 | .ptr _,.ptr ..,.nilp=>some (.lit false)
 | .ptr _,.nilp,.ptri .. =>some (.lit false)
 | .ptr _,.ptri ..,.nilp=>some (.lit false)
 | .ptr _,.nilp,.ptrE e=>some (bEq e (.lit 0))
 | .ptr _,.ptrE e,.nilp=>some (bEq e (.lit 0))
 | .slice _,.nils,.nils=>some (.lit true)
 | .slice _,.nils,.sl .. =>some (.lit false)
 | .slice _,.sl ..,.nils=>some (.lit false)
 | .func,.nilf,.nilf=>some (.lit true)
 | .func,.nilf,.fn .. =>some (.lit false)
 | .func,.fn ..,.nilf=>some (.lit false)
 | .func,.fm ..,.nilf=>some (.lit false)
 | _,_,_=>none
def IntKind.lo:IntKind→Int
 | .i8=> -128 | .i16=> -32768 | .i32=> -2147483648 | .i64=> -9223372036854775808 | _=>0
def IntKind.hi:IntKind→Int
 | .i8=>127 | .i16=>32767 | .i32=>2147483647 | .i64=>9223372036854775807
 | .u8=>255 | .u16=>65535 | .u32=>4294967295 | .u64=>18446744073709551615
def isSigned:IntKind→Bool
 | .i8 | .i16 | .i32 | .i64=>true
 | _=>false
def fitK(k:IntKind)(e:E):E×List BE:=
 match e with
 | .lit n=>(.lit (k.wrap n),[])
 | .bin .add _ (.wrap .i64 _) _=>(.wrap k e,[])
 | _=>if isSigned k then(e,[.le (.lit (IntKind.lo k)) e,.le e (.lit (IntKind.hi k))])else(.wrap k e,[])
def convK(k:IntKind)(e:E):E×List BE:=
 match e with
 | .wrap .u64 (.bin .sub .i64 (.lit 0) _)=>if isSigned k then(.wrap k e,[])else fitK k e
 | _=>fitK k e
def nonNeg(b:E):List BE:=[bLe (.lit 0) b].filter fun b=>b != .lit true
def binSym(ti:TI)(o:BinOp)(x y:SV):Option Res:=
 match x,y with
 | .int k a,.int k' b=>
  match o with
  | .shl=>some {val:= .int k (eBin .shl k a b),vcs:=nonNeg b}
  | .shr=>some {val:= .int k (eBin .shr k a b),vcs:=nonNeg b}
  | _=>
  if k≠k' then none else
  match o with
  | .add=>let (e,vc):=fitK k (eAdd a b);some {val:= .int k e,vcs:=vc}
  | .sub=>let (e,vc):=fitK k (eSub a b);some {val:= .int k e,vcs:=vc}
  | .mul=>let (e,vc):=fitK k (eMul a b);some {val:= .int k e,vcs:=vc}
  | .quo=>some {val:= .int k (eWrap k (eBin .quo k a b)),vcs:=[bNz b]}
  | .rem=>some {val:= .int k (eBin .rem k a b),vcs:=[bNz b]}
  | .and=>some {val:= .int k (eBin .band k a b)}
  | .or=>some {val:= .int k (eBin .bor k a b)}
  | .xor=>some {val:= .int k (eBin .bxor k a b)}
  | .andNot=>some {val:= .int k (eBin .bandNot k a b)}
  | .eql=>some {val:= .bool (bEq a b)}
  | .neq=>some {val:= .bool (bNot (bEq a b))}
  | .lss=>some {val:= .bool (bLt a b)}
  | .leq=>some {val:= .bool (bLe a b)}
  | .gtr=>some {val:= .bool (bLt b a)}
  | .geq=>some {val:= .bool (bLe b a)}
  | _=>none
 | .bool a,.bool b=>
  if ti.k≠ .bool then none else
  match o with
  | .eql=>some {val:= .bool (bIte a b (bNot b))}
  | .neq=>some {val:= .bool (bNot (bIte a b (bNot b)))}
  | _=>none
 | .agg a,.agg b=>
  if !ti.k.agg||ti.lay.isEmpty|| !(fitLay a (layCells ti.lay))|| !(fitLay b (layCells ti.lay))then none else
  match o,cellsEqX a b with
  | .eql,some c=>some {val:= .bool c}
  | .neq,some c=>some {val:= .bool (bNot c)}
  | _,_=>none
 | a,b=>
  if ti.k= .str then strBin o a b else
  match o,ptrEq ti.k a b with
  | .eql,some c=>some {val:= .bool c}
  | .neq,some c=>some {val:= .bool (bNot c)}
  | _,_=>none
def fillSym(place:Nat→Option (Nat×Nat))(cells:List SV):List (Nat×List SV)→Option (List SV)
 | []=>some cells
 | (i,cs)::r=>
  match place i with
  | some (off,size)=>
   if rowLen cs=size then
    match rowPut off cs cells with
    | some cells'=>fillSym place cells' r
    | none=>none
   else none
  | none=>none
def fieldPlaces(T:List TI)(fs:List (Nat×Nat))(i:Nat):Option (Nat×Nat):=
 match fs[i]? with
 | some (t,off)=>(tlook T t).map fun ti=>(off,ti.size)
 | none=>none
def elemPlaces(size:Nat)(i:Nat):Option (Nat×Nat):=some (i*size,size)
def tlookAll(T:List TI)(fs:List (Nat×Nat)):Bool:=fs.all fun f=>(tlook T f.1).isSome
def partsOf(look:Nat→Option SV):List (Nat×Operand)→Option (List (Nat×List SV))
 | []=>some []
 | (i,x)::r=>
  match opEval look x,partsOf look r with
  | some v,some rest=>(toCells v).map fun cs=>(i,cs)::rest
  | _,_=>none
def optAll:List (Option SV)→Option (List SV)
 | []=>some []
 | some v::r=>(optAll r).map (v:: ·)
 | none::_=>none
def pickSym(c:BE)(a b:SV):Option SV:=
 match c with
 | .lit true=>some a
 | .lit false=>some b
 | c=>
  match a,b with
  | .bool x,.bool y=>some (.bool (bIte c x y))
  | .bool x,.opt g (.bool y)=>if g=bNot c then some (.bool (bIte c x y))else none
  | .opt g (.bool x),.bool y=>if g=c then some (.bool (bIte c x y))else none
  | _,_=>none
structure Part where
 lo:E
 len:E
 mx:Option E
 deriving Repr
def cutStep(n:E)(p:Part)(c:Cut):Part×List BE:=
 (⟨eAdd p.lo c.lo,eSub c.hi c.lo,match c.mx with | some m=>some (eAdd p.lo m) | none=>p.mx⟩,
  bLe' (.lit 0) c.lo++bLe' c.lo c.hi++
  match c.mx,p.mx with
  | none,none=>bLe' (eAdd p.lo c.hi) n
  | none,some m0=>bLe' (eAdd p.lo c.hi) m0
  | some m,none=>bLe' c.hi m++bLe' (eAdd p.lo m) n
  | some m,some m0=>bLe' c.hi m++bLe' (eAdd p.lo m) m0)
def cutsOf(n:E):List Cut→Part→Part×List BE
 | [],p=>(p,[])
 | c::r,p=>((cutsOf n r (cutStep n p c).1).1,(cutStep n p c).2++(cutsOf n r (cutStep n p c).1).2)
structure Rt where
 j:Nat
 md:Bool
 v:Nat
 t:Nat
 s:Nat
 n:E
 cols:List Col
 p:Part
 vcs:List BE
def rootSV(hp:List Ck):SV→Option Rt
 | .vv v=>match findOwn hp v with
  | some (j,.sli md _ t s n cols)=>some ⟨j,md,v,t,s,n,cols,⟨.lit 0,n,none⟩,[]⟩
  | _=>none
 | .vsub v cs s'=>match findOwn hp v with
  | some (j,.sli md _ t s n cols)=>if s=s' then some ⟨j,md,v,t,s,n,cols,(cutsOf n cs ⟨.lit 0,n,none⟩).1,(cutsOf n cs ⟨.lit 0,n,none⟩).2⟩else none
  | _=>none
 | _=>none
def Ck.isMap(b:Nat):Ck→Bool
 | .map b' .. =>b==b'
 | .mapl b' .. =>b==b'
 | _=>false
def findMap(hp:List Ck)(b:Nat):Option (Nat×Ck):=
 match hp.findIdx? (Ck.isMap b)with
 | some i=>(hp[i]?).map fun c=>(i,c)
 | none=>none
def lenSym(hp:List Ck)(k:TK)(v:SV):Option Res:=
 match k with
 | .map _ _=>
  match v with
  | .mp b=>
   match findMap hp b with
   | some (j,.map _ _ _ _ _ has _)=>some {val:= .int .i64 (eSel has (.lit 0)),rd:=[j]}
   | _=>none
  | .nilm=>some {val:= .int .i64 (.lit 0)}
  | _=>none
 | .slice _=>
  match v with
  | .sl _ _ _ n _=>some {val:= .int .i64 n,vcs:=nonNeg n}
  | .nils=>some {val:= .int .i64 (.lit 0)}
  | .vv v=>
   match findOwn hp v with
   | some (j,.sli _ _ _ _ n _)=>some {val:= .int .i64 n,vcs:=nonNeg n,rd:=[j]}
   | _=>none
  | .vsub v cs s=>
   match rootSV hp (.vsub v cs s)with
   | some r=>some {val:= .int .i64 r.p.len,vcs:=r.vcs++bLe' (.lit 0) r.p.len,rd:=[r.j]}
   | none=>none
  | _=>none
 | .str=>
  match v with
  | .str l=>some {val:= .int .i64 (.lit l.length)}
  | .strE s=>some {val:= .int .i64 (eLen s),vcs:=nonNeg (eLen s)}
  | _=>none
 | _=>none
mutual
def colsOf(T:List TI):Nat→Nat→Option (List Col)
 | 0,_=>none
 | d+1,t=>
  match tlook T t with
  | some {k:= .int k,.. }=>some [⟨.int k,1,.lit 0⟩]
  | some {k:= .bool,.. }=>some [⟨.bool,1,.lit 0⟩]
  | some {k:= .ptr _,.. }=>some [⟨.ptr,1,.lit 0⟩]
  | some {k:= .slice _,.. }=>some [⟨.nils,1,.lit 0⟩]
  | some {k:= .str,.. }=>some [⟨.sv,1,.lit 0⟩]
  | some {k:= .arr n e,.. }=>match tlook T e with
   | some {k:= .int k,.. }=>some [⟨.int k,n,.lit 0⟩]
   | _=>none
  | some {k:= .struct fs,.. }=>colsOfs T d fs
  | _=>none
def colsOfs(T:List TI):Nat→List (Nat×Nat)→Option (List Col)
 | 0,_=>none
 | _+1,[]=>some []
 | d+1,(t,_)::r=>match colsOf T d t,colsOfs T d r with
  | some a,some b=>some (a++b)
  | _,_=>none
end
def appendSym(T:List TI)(hp:List Ck)(nv:Nat)(k:TK)(x y:SV):Option Res:=
 match x,y with
 | .vv v,.sl b i s m _=>
  match findOwn hp v,findAt hp b with
  | some (j,.sli true _ t s' n cols),some (j',.row _ _ cs)=>
   match colPuts n cs cols,tlook T t with
   | some cols',some te=>
    if i= .lit 0∧m= .lit 1∧k= .slice t∧s=s'∧s=colsW cols∧rowLen cs=s∧0<s∧cs.all SV.one=true∧te.size=s then
     some {val:= .vv nv,vcs:=nonNeg n++[.le (.bin .mul .i64 (.bin .add .i64 n (.lit 1)) (.lit (max 1 te.bytes:Nat))) (.lit 140737488355328)],rd:=[j,j'],eff:= .app j (.sli true nv t s (eAdd n (.lit 1)) cols')}
    else none
   | _,_=>none
  | _,_=>none
 | .nils,.sl b i s m _=>
  match findAt hp b,k with
  | some (j',.row _ _ cs),.slice t=>
   match tlook T t,colsOf T 30 t with
   | some te,some cols=>
    match colPuts (.lit 0) cs cols with
    | some cols'=>
     if i= .lit 0∧m= .lit 1∧s=colsW cols∧rowLen cs=s∧0<s∧cs.all SV.one=true∧te.size=s∧te.bytes≤140737488355328 then
      some {val:= .vv nv,rd:=[j'],eff:= .own (.sli true nv t s (.lit 1) cols')}
     else none
    | none=>none
   | _,_=>none
  | _,_=>none
 | _,_=>none
def sliceVal(x:SV)(c:Cut)(s:Nat):Option SV:=
 match x with
 | .vv v=>some (.vsub v [c] s)
 | .vsub v cs s'=>if s=s' then some (.vsub v (cs++[c]) s)else none
 | _=>none
def sliceSym(T:List TI)(hp:List Ck)(k:TK)(x:SV)(lo hi mx:Option E):Option Res:=
 if mx.isSome&&hi.isNone then none else
 match k,x with
 | .slice e,.sl b i s n m=>
  match tlook T e with
  | some te=>
   if te.size=s then
    let l:=lo.getD (.lit 0)
    let h:=hi.getD n
    let mm:=mx.getD m
    some {val:= .sl b (eAdd i l) s (eSub h l) (eSub mm l),vcs:=bLe' (.lit 0) i++bLe' (.lit 0) l++bLe' l h++bLe' h mm++bLe' mm m++bLe' (.lit 0) n++(if l= .lit 0 then []else [bLt l mm].filter fun b=>b != .lit true)}
   else none
  | none=>none
 | .slice e,.nils=>
  match tlook T e with
  | some _=>if lo.getD (.lit 0)= .lit 0∧hi.getD (.lit 0)= .lit 0∧mx.getD (.lit 0)= .lit 0 then some {val:= .nils}else none
  | none=>none
 | .slice e,x=>
  match tlook T e,rootSV hp x with
  | some te,some r=>
   if te.size=r.s then
    let c:Cut:=⟨lo.getD (.lit 0),hi.getD r.p.len,mx⟩
    match sliceVal x c r.s with
    | some v=>some {val:=v,vcs:=r.vcs++(cutStep r.n r.p c).2,rd:=[r.j]}
    | none=>none
   else none
  | _,_=>none
 | .arr n e,.pv v i s c=>
  match tlook T e,findOwn hp v,lo,hi,mx with
  | some _,some (j,.sli _ _ _ _ m _),none,none,none=>some {val:= .asl v i s c n,vcs:=inRange i m,rd:=[j]}
  | _,_,_,_,_=>none
 | .arr n e,.ptr b c=>
  match tlook T e with
  | some te=>
   if te.size≠0∧c%te.size=0 then
    let l:=lo.getD (.lit 0)
    let h:=hi.getD (.lit n)
    let mm:=mx.getD (.lit n)
    some {val:= .sl b (eAdd (.lit (c/te.size:Nat)) l) te.size (eSub h l) (eSub mm l),vcs:=bLe' (.lit 0) l++bLe' l h++bLe' h mm++bLe' mm (.lit n)++(if l= .lit 0 then []else [bLt l mm].filter fun b=>b != .lit true)}
   else none
  | none=>none
 | _,_=>none
def shiftCol(lo:E)(c:Col):Option Col:=
 match c.ck with
 | .val _=>if lo= .lit 0 then some c else none
 | .vls _=>if lo= .lit 0 then some c else none
 | .pt _ _=>if lo= .lit 0 then some c else none
 | .str=>if lo= .lit 0 then some c else none
 | _=>some {c with a:=eShift c.a (eMul lo (.lit c.w))}
def shiftCols(lo:E):List Col→Option (List Col)
 | []=>some []
 | c::r=>match shiftCol lo c,shiftCols lo r with
  | some a,some b=>some (a::b)
  | _,_=>none
def splCol(at_ m:E)(d s:Col):Option Col:=
 if d.w≠s.w then none else
 match d.ck,s.ck with
 | .int k,.int k'=>if k=k' then some {d with a:= .spl d.a (eMul at_ (.lit d.w)) (eMul m (.lit d.w)) s.a}else none
 | .bool,.bool=>some {d with a:= .spl d.a (eMul at_ (.lit d.w)) (eMul m (.lit d.w)) s.a}
 | .ptr,.ptr=>some {d with a:= .spl d.a (eMul at_ (.lit d.w)) (eMul m (.lit d.w)) s.a}
 | .nils,.nils=>some d
 | .sv,.sv=>some {d with a:= .spl d.a (eMul at_ (.lit d.w)) (eMul m (.lit d.w)) s.a}
 | .ix i,.ix j=>if i=j then some {d with a:= .spl d.a (eMul at_ (.lit d.w)) (eMul m (.lit d.w)) s.a}else none
 | .str,.str=>if m= .lit 1∧d.w=1 then some {d with a:= .put2 d.a at_ (eAt2 s.a (.lit 0))}else if m= .lit 0 then some d else none
 | _,_=>none
def splCols(at_ m:E):List Col→List Col→Option (List Col)
 | [],[]=>some []
 | d::r,s::r'=>match splCol at_ m d s,splCols at_ m r r' with
  | some a,some b=>some (a::b)
  | _,_=>none
 | _,_=>none
structure Src where
 rd:List Nat
 vcs:List BE
 n:E
 cols:List Col
def putRows(s:Nat):Nat→Nat→List SV→List Col→Option (List Col)
 | 0,_,_,cols=>some cols
 | k+1,i,cs,cols=>
  match rowCut 0 s cs,rowDrop s cs with
  | some a,some b=>match colPuts (.lit i) a cols with
   | some cols'=>putRows s k (i+1) b cols'
   | none=>none
  | _,_=>none
def srcOf(T:List TI)(hp:List Ck)(te:TI)(y:SV):Option Src:=
 match y with
 | .nils=>match colsOf T 30 te.t with
  | some cols=>if te.size=colsW cols then some ⟨[],[],.lit 0,cols⟩else none
  | none=>none
 | .sl b i s m _=>
  match findAt hp b with
  | some (j,.row _ _ cs)=>
   if s≠te.size then none else
   match litNat i,litNat m with
   | some i0,some m0=>
    match rowCut (i0*s) (m0*s) cs with
    | some [.seg k N a]=>if s=1∧N=m0 then some ⟨[j],[],.lit m0,[⟨.int k,1,a⟩]⟩else none
    | some x=>
     if x.all SV.one then
      match colsOf T 30 te.t with
      | some cols=>if s=colsW cols then(putRows s m0 0 x cols).map fun cols'=>⟨[j],[],.lit m0,cols'⟩else none
      | none=>none
     else none
    | none=>none
   | _,_=>
    match cs with
    | [.seg k N a]=>if s=1 then some ⟨[j],bLe' (.lit 0) i++bLe' (.lit 0) m++bLe' (eAdd i m) (.lit N),m,[⟨.int k,1,eShift a i⟩]⟩else none
    | _=>none
  | _=>none
 | x=>
  match rootSV hp x with
  | some r=>
   if r.s=te.size∧r.s=colsW r.cols then
    (shiftCols r.p.lo r.cols).map fun cols=>⟨[r.j],r.vcs++bLe' (.lit 0) r.p.len,r.p.len,cols⟩
   else none
  | none=>none
def roomVc(n:E)(bytes:Nat):BE:=bLe (eMul n (.lit (max 1 bytes:Nat))) (.lit 140737488355328)
def sameRoot(y:SV)(v:Nat):Bool:=
 match y with
 | .vv v'=>v'==v
 | .vsub v' _ _=>v'==v
 | _=>false
def fullCut:SV→Bool
 | .vsub _ [⟨_,hi,some m⟩] _=>hi==m
 | _=>false
def appendSym2(T:List TI)(hp:List Ck)(nv:Nat)(k:TK)(x y:SV):Option Res:=
 match k with
 | .slice t=>
  match tlook T t with
  | some te=>
   match srcOf T hp te y with
   | some sc=>
    if te.size=0 then none else
    match x with
    | .nils=>some {val:= .vv nv,vcs:=sc.vcs++bLe' (.lit 0) sc.n++[roomVc sc.n te.bytes],rd:=sc.rd,eff:= .own (.sli true nv t te.size sc.n sc.cols)}
    | .sl b i s n m=>
     match srcOf T hp te (.sl b i s n m),litNat sc.n with
     | some x,some (_+1)=>
      if x.n=n∧n=m∧s=te.size then
       (splCols n sc.n x.cols sc.cols).map fun cols'=>{val:= .vv nv,vcs:=x.vcs++sc.vcs++bLe' (.lit 0) n++[roomVc (eAdd n sc.n) te.bytes],rd:=x.rd++sc.rd,eff:= .own (.sli true nv t te.size (eAdd n sc.n) cols')}
      else none
     | _,_=>none
    | x=>
     match rootSV hp x with
     | some r=>
      if r.t=t∧r.s=te.size∧r.s=colsW r.cols∧r.md=true then
       if sameRoot y r.v&& !fullCut x then
        match x,splCols (eAdd r.p.lo r.p.len) sc.n r.cols sc.cols with
        | .vsub v [⟨lo,hi,none⟩] s,some cols'=>
         some {val:= .vsub v [⟨lo,eAdd hi sc.n,none⟩] s,vcs:=r.vcs++sc.vcs++bLe' (.lit 0) sc.n++bLe' (eAdd hi sc.n) r.n,rd:=r.j::sc.rd,eff:= .set r.j (.sli true r.v t r.s r.n cols')}
        | _,_=>none
       else
        match shiftCols r.p.lo r.cols with
        | some rc=>
         match (if r.p.len= .lit 0 then some sc.cols else splCols r.p.len sc.n rc sc.cols)with
         | some cols'=>
          some {val:= .vv nv,vcs:=r.vcs++sc.vcs++bLe' (.lit 0) r.p.len++bLe' (.lit 0) sc.n++[roomVc (eAdd r.p.len sc.n) te.bytes],rd:=r.j::sc.rd,eff:= .app r.j (.sli true nv t r.s (eAdd r.p.len sc.n) cols')}
         | none=>none
        | none=>none
      else none
     | none=>none
   | none=>none
  | none=>none
 | _=>none
def zeroFit:List SV→List Col→Bool
 | [],[]=>true
 | .int k (.lit 0)::r,⟨.int k',w,.lit 0⟩::cols=>k==k'&&w==1&&zeroFit r cols
 | .bool (.lit false)::r,⟨.bool,w,.lit 0⟩::cols=>w==1&&zeroFit r cols
 | .seg k n (.lit 0)::r,⟨.int k',w,.lit 0⟩::cols=>k==k'&&w==n&&zeroFit r cols
 | .nilp::r,⟨.ptr,w,.lit 0⟩::cols=>w==1&&zeroFit r cols
 | .nils::r,⟨.nils,w,_⟩::cols=>w==1&&zeroFit r cols
 | .str []::r,⟨.str,w,.lit 0⟩::cols=>w==1&&zeroFit r cols
 | .str []::r,⟨.sv,w,.lit 0⟩::cols=>w==1&&zeroFit r cols
 | _,_=>false
def zeroCols(T:List TI)(te:TI):Option (List Col):=
 match colsOf T 30 te.t with
 | some cols=>if zeroFit te.zero cols&&colsW cols==te.size&& !(te.size==0)then some cols else none
 | none=>none
def clearSym(T:List TI)(hp:List Ck)(k:TK)(x:SV):Option Res:=
 match k,x with
 | .slice _,.nils=>some {val:= .undef}
 | .slice e,x=>
  match tlook T e,rootSV hp x with
  | some te,some r=>
   match zeroCols T te with
   | some z=>
    if r.s=te.size∧r.s=colsW r.cols∧r.md=true then
     (splCols r.p.lo r.p.len r.cols z).map fun cols'=>{val:= .undef,vcs:=r.vcs++bLe' (.lit 0) r.p.len,rd:=[r.j],eff:= .set r.j (.sli true r.v r.t r.s r.n cols')}
    else none
   | none=>none
  | _,_=>none
 | _,_=>none
def eMin:E→E→E
 | .lit a,.lit b=> .lit (min a b)
 | a,b=>if a=b then a else .bin .imin .i64 a b
def copySym(T:List TI)(hp:List Ck)(k:TK)(x y:SV):Option Res:=
 match k with
 | .slice t=>
  match tlook T t with
  | some te=>
   match srcOf T hp te y with
   | some sc=>
    match x with
    | .sl b i s n _=>
     match findAt hp b with
     | some (j,.row b' true cs)=>
      if s≠te.size∨s=0 then none else
      match cs with
      | [.seg k N a]=>
       match sc.cols with
       | [⟨.int k',1,a'⟩]=>
        if s=1∧k=k' then
         some {val:= .int .i64 (eMin sc.n n),vcs:=sc.vcs++bLe' (.lit 0) sc.n++bLe' (.lit 0) i++bLe' (.lit 0) n++bLe' (eAdd i n) (.lit N),rd:=j::sc.rd,eff:= .set j (.row b' true [.seg k N (.spl a i (eMin sc.n n) a')])}
        else none
       | _=>none
      | _=>
       match litNat i,litNat n,litNat sc.n,sc.cols with
       | some i0,some n0,some m0,[⟨.int k',1,a'⟩]=>
        if s=1 then
         (rowPut i0 [.seg k' (min m0 n0) a'] cs).map fun cs'=>{val:= .int .i64 (.lit (min m0 n0:Nat)),vcs:=sc.vcs,rd:=j::sc.rd,eff:= .set j (.row b' true cs')}
        else none
       | some i0,some n0,none,[⟨.int k',1,a'⟩]=>
        match rowCut i0 n0 cs with
        | some [.seg k2 N2 a]=>
         if s=1∧k2=k'∧N2=n0 then
          (rowPut i0 [.seg k' n0 (.spl a (.lit 0) (eMin sc.n (.lit n0)) a')] cs).map fun cs'=>{val:= .int .i64 (eMin sc.n (.lit n0)),vcs:=sc.vcs++bLe' (.lit 0) sc.n,rd:=j::sc.rd,eff:= .set j (.row b' true cs')}
         else none
        | _=>none
       | _,_,_,_=>none
     | _=>none
    | x=>
     match rootSV hp x with
     | some r=>
      if r.t=t∧r.s=te.size∧r.s=colsW r.cols∧r.md=true∧0<r.s then
       (splCols r.p.lo (eMin sc.n r.p.len) r.cols sc.cols).map fun cols'=>
        {val:= .int .i64 (eMin sc.n r.p.len),vcs:=r.vcs++sc.vcs++bLe' (.lit 0) r.p.len++bLe' (.lit 0) sc.n,rd:=r.j::sc.rd,eff:= .set r.j (.sli true r.v t r.s r.n cols')}
      else none
     | none=>none
   | none=>none
  | none=>none
 | _=>none
def makeSym(T:List TI)(nv:Nat)(k:TK)(n c:E):Option Res:=
 match k with
 | .slice t=>
  match tlook T t with
  | some te=>
   match zeroCols T te with
   | some z=>some {val:= .vv nv,vcs:=bLe' (.lit 0) n++bLe' n c++[roomVc c te.bytes],eff:= .own (.sli true nv t te.size n z)}
   | none=>none
  | none=>none
 | _=>none
def appendZ(T:List TI)(hp:List Ck)(nv:Nat)(k:TK)(x:SV)(m:E):Option Res:=
 match k,x with
 | .slice t,.vv v=>
  match tlook T t,findOwn hp v with
  | some te,some (j,.sli true _ t' s n cols)=>
   match zeroCols T te with
   | some z=>
    match splCols n m cols z with
    | some cols'=>
     if t'=t∧s=te.size∧s=colsW cols then
      some {val:= .vv nv,vcs:=bLe' (.lit 0) n++bLe' (.lit 0) m++[roomVc (eAdd n m) te.bytes],rd:=[j],eff:= .app j (.sli true nv t s (eAdd n m) cols')}
     else none
    | none=>none
   | none=>none
  | _,_=>none
 | .slice t,.vsub v cs s=>
  match tlook T t,rootSV hp (.vsub v cs s)with
  | some te,some r=>
   match zeroCols T te,r.p.mx,shiftCols r.p.lo r.cols with
   | some z,some mx,some rc=>
    match splCols r.p.len m rc z with
    | some cols'=>
     if r.s=te.size∧r.s=colsW r.cols then
      some {val:= .vv nv,vcs:=r.vcs++bLe' (.lit 0) r.p.len++bLe' r.p.lo mx++bLe' (.lit 0) m++[bLt (eSub mx r.p.lo) (eAdd r.p.len m)]++[roomVc (eAdd r.p.len m) te.bytes],rd:=[r.j],eff:= .own (.sli true nv t te.size (eAdd r.p.len m) cols')}
     else none
    | none=>none
   | _,_,_=>none
  | _,_=>none
 | .slice t,.nils=>
  match tlook T t with
  | some te=>
   match zeroCols T te with
   | some z=>
    if te.size=colsW z then
     some {val:= .vv nv,vcs:=bLe' (.lit 0) m++[roomVc m te.bytes],eff:= .own (.sli true nv t te.size m z)}
    else none
   | none=>none
  | none=>none
 | _,_=>none
def rowCol(cs:List SV):Option (Nat×Col):=
 match cs with
 | [.strE (.srow e)]=>some (1,⟨.sv,1,.upd (.lit 0) (.lit 0) e⟩)
 | [.strE e]=>some (1,⟨.sv,1,.upd (.lit 0) (.lit 0) (.scd e)⟩)
 | cs=>match rowOf cs with
  | some (ki::kl,a)=>if ki::kl=List.replicate (kl.length+1) ki then some (kl.length+1,⟨.int ki,1,a⟩)else none
  | _=>none
def appendRow(T:List TI)(hp:List Ck)(nv:Nat)(k:TK)(x y:SV):Option Res:=
 match k,x with
 | .slice t,.sl b i s n m=>
  match tlook T t,findAt hp b,litNat i,litNat n with
  | some te,some (j,.row _ true cs),some 0,some q=>
   match rowCol cs,srcOf T hp te y with
   | some (q',col),some sc=>
    if n=m∧s=1∧te.size=1∧q'=q then
     (splCols (.lit q) sc.n [col] sc.cols).map fun cols'=>
      {val:= .vv nv,vcs:=sc.vcs++bLe' (.lit 0) sc.n++[roomVc (eAdd (.lit q) sc.n) te.bytes],rd:=j::sc.rd,eff:= .app j (.sli true nv t 1 (eAdd (.lit q) sc.n) cols')}
    else none
   | _,_=>none
  | _,_,_,_=>none
 | _,_=>none
def vvNames:List SV→Option (List Nat)
 | []=>some []
 | .vv i::r=>(vvNames r).map (i:: ·)
 | _=>none
def rowNames(hp:List Ck):SV→Option (Nat×List Nat)
 | .sl b i _ n _=>
  match findAt hp b,litNat i,litNat n with
  | some (j,.row _ _ cs),some 0,some q=>
   match vvNames cs with
   | some l=>if l.length=q then some (j,l)else none
   | none=>none
  | _,_,_=>none
 | _=>none
def appendVls(T:List TI)(hp:List Ck)(nv:Nat)(k:TK)(x y:SV):Option Res:=
 match k,x with
 | .slice t,.sl b i s n m=>
  match tlook T t,rowNames hp (.sl b i s n m),rowNames hp y with
  | some te,some (j,l),some (j',l')=>
   if n=m∧te.size=1∧l'.length≠0∧(l.length+l'.length)*te.bytes≤140737488355328∧l.length+l'.length≤140737488355328 then
    some {val:= .vv nv,rd:=[j,j'],eff:= .own (.sli true nv t 1 (.lit (l.length+l'.length:Nat)) [⟨.vls (l++l'),1,.lit 0⟩])}
   else none
  | _,_,_=>none
 | _,_=>none
def appendAny(T:List TI)(hp:List Ck)(nv:Nat)(tt:TI)(ts ts':Nat)(x y:SV):Option Res:=
 if ts=ts' then(match appendSym T hp nv tt.k x y with | some r=>some r | none=>match appendSym2 T hp nv tt.k x y with | some r=>some r | none=>match appendRow T hp nv tt.k x y with | some r=>some r | none=>appendVls T hp nv tt.k x y)else(match tlook T ts',y with
    | some ti,.int _ m=>match ti.k with
     | .int _=>appendZ T hp nv tt.k x m
     | _=>none
    | _,_=>none)
def litAt(a:E)(i:Nat):Option Int:=
 match eSel a (.lit i)with
 | .lit n=>some n
 | _=>none
def litsOf(a:E):Nat→Option (List Int)
 | 0=>some []
 | n+1=>match litsOf a n,litAt a n with
  | some l,some x=>some (l++[x])
  | _,_=>none
def eKc(n:Nat)(a:E):E:=
 match litsOf a n with
 | some l=> .lit (kcode l:Nat)
 | none=> .kc n a
def allInt:List CellK→Option (List IntKind)
 | []=>some []
 | .int k::r=>(allInt r).map (k:: ·)
 | _::_=>none
def keyKinds(ti:TI):Option (List IntKind×Bool):=
 match ti.k with
 | .int k=>some ([k],false)
 | .struct _=>if ti.lay.isEmpty then none else(allInt (layCells ti.lay)).map fun l=>(l,true)
 | .arr .. =>if ti.lay.isEmpty then none else(allInt (layCells ti.lay)).map fun l=>(l,true)
 | _=>none
def keyCells(ka:Bool)(k:SV):Option (List SV):=
 match ka,k with
 | true,.agg cs=>some cs
 | false,.int q e=>some [.int q e]
 | _,_=>none
def zeroColsM(T:List TI)(te:TI):Option (List Col):=
 if te.size=0 then(if te.zero.isEmpty&&te.k.agg then some []else none)else zeroCols T te
def litSame:List SV→List SV→Bool
 | [],[]=>true
 | .int k (.lit n)::r,.int k' (.lit m)::s=>k==k'&&n==m&&litSame r s
 | .bool (.lit a)::r,.bool (.lit b)::s=>a==b&&litSame r s
 | .seg k n (.lit a)::r,.seg k' n' (.lit b)::s=>k==k'&&n==n'&&a==b&&litSame r s
 | .nilp::r,.nilp::s=>litSame r s
 | .nils::r,.nils::s=>litSame r s
 | .nilf::r,.nilf::s=>litSame r s
 | .nili::r,.nili::s=>litSame r s
 | .nilm::r,.nilm::s=>litSame r s
 | .str l::r,.str l'::s=>l==l'&&litSame r s
 | _,_=>false
def TK.isSlice:TK→Bool
 | .slice _=>true
 | _=>false
def makeMapSym(T:List TI)(nb t:Nat):Option Res:=
 match tlook T t with
 | some {k:= .map kt vt,.. }=>
  match tlook T kt,tlook T vt with
  | some tk,some tv=>
   match keyKinds tk,(if tv.k.isSlice then none else zeroColsM T tv)with
   | some (kl,ka),some cols=>some {val:= .mp nb,eff:= .new (.map nb kl ka tv.k.agg tv.zero (.lit 0) cols)}
   | some (kl,ka),none=>some {val:= .mp nb,eff:= .new (.mapl nb kl ka tv.k.agg tv.zero [])}
   | _,_=>none
  | _,_=>none
 | _=>none
def lookupSym(T:List TI)(hp:List Ck)(t:Nat)(x k:SV)(comma:Bool):Option Res:=
 match tlook T t with
 | some {k:= .map kt vt,.. }=>
  match tlook T kt,tlook T vt with
  | some tk,some tv=>
   match keyKinds tk with
   | some (kl,ka)=>
    match keyCells ka k with
    | some kc=>
     match rowOf kc with
     | some (kl',a)=>
      if kl'≠kl then none else
      match x with
      | .nilm=>(ofCells tv.k.agg tv.zero).map fun v=>{val:=if comma then .tup [v,.bool (.lit false)]else v}
      | .mp b=>
       match findMap hp b with
       | some (j,.map _ kl2 ka2 va2 zero2 has cols)=>
        if kl2=kl∧ka2=ka∧va2=tv.k.agg∧litSame zero2 tv.zero=true then
         match colElems (eKc kl.length a) cols with
         | some es=>(ofCells tv.k.agg es).map fun v=>{val:=if comma then .tup [v,.bool (bNz (eSel has (eKc kl.length a)))]else v,rd:=[j]}
         | none=>none
        else none
       | some (j,.mapl _ kl2 ka2 va2 zero2 es)=>
        if kl2=kl∧ka2=ka∧va2=tv.k.agg∧litSame zero2 tv.zero=true then
         match eKc kl.length a with
         | .lit n=>(ofCells tv.k.agg (rowL es zero2 n.toNat)).map fun v=>{val:=if comma then .tup [v,.bool (.lit (hasL es n.toNat))]else v,rd:=[j]}
         | _=>none
        else none
       | _=>none
      | _=>none
     | none=>none
    | none=>none
   | none=>none
  | _,_=>none
 | _=>none
def isAggV:SV→Bool
 | .agg _=>true
 | .seg .. =>true
 | _=>false
def updateSym(T:List TI)(hp:List Ck)(t:Nat)(x k v:SV):Option Res:=
 match tlook T t with
 | some {k:= .map kt vt,.. }=>
  match tlook T kt,tlook T vt with
  | some tk,some tv=>
   match keyKinds tk with
   | some (kl,ka)=>
    match keyCells ka k,toCells v with
    | some kc,some vs=>
     match rowOf kc,x with
     | some (kl',a),.mp b=>
      match findMap hp b with
      | some (j,.map b' kl2 ka2 va2 zero has cols)=>
       if kl'=kl∧kl2=kl∧ka2=ka∧va2=tv.k.agg∧rowLen vs=colsW cols∧isAggV v=tv.k.agg then
        match colPuts (eKc kl.length a) vs cols with
        | some cols'=>some {val:= .undef,rd:=[j],eff:= .set j (.map b' kl ka va2 zero (.upd (.upd has (.lit 0) (eSub (eAdd (eSel has (.lit 0)) (.lit 1)) (eBin .imin .i64 (eSel has (eKc kl.length a)) (.lit 1)))) (eKc kl.length a) (.lit 1)) cols')}
        | none=>none
       else none
      | some (j,.mapl b' kl2 ka2 va2 zero es)=>
       if kl'=kl∧kl2=kl∧ka2=ka∧va2=tv.k.agg∧isAggV v=tv.k.agg then
        match eKc kl.length a with
        | .lit n=>some {val:= .undef,rd:=[j],eff:= .set j (.mapl b' kl ka va2 zero (putL n.toNat vs es))}
        | _=>none
       else none
      | _=>none
     | _,_=>none
    | _,_=>none
   | none=>none
  | _,_=>none
 | _=>none
def entrySym(T:List TI)(hp:List Ck)(t:Nat)(x k:SV):Option Res:=
 match tlook T t with
 | some {k:= .map kt vt,.. }=>
  match tlook T kt,tlook T vt with
  | some tk,some tv=>
   match keyKinds tk with
   | some (kl,ka)=>
    match keyCells ka k with
    | some kc=>
     match rowOf kc,x with
     | some (kl',a),.mp b=>
      match findMap hp b with
      | some (j,.map b' kl2 ka2 va2 zero has cols)=>
       if kl'=kl∧kl2=kl∧ka2=ka∧va2=tv.k.agg∧kl≠[]∧litSame zero tv.zero=true then
        (ofCells tv.k.agg tv.zero).map fun z=>{val:= .tup [z,.int .i64 (eSel has (.lit 0))],vcs:=[bEq (eSel has (eKc kl.length a)) (.lit 0)],rd:=[j],eff:= .set j (.map b' kl ka va2 zero (.upd (.upd has (.lit 0) (eAdd (eSel has (.lit 0)) (.lit 1))) (eKc kl.length a) (eAdd (eSel has (.lit 0)) (.lit 2))) cols)}
       else none
      | _=>none
     | _,_=>none
    | none=>none
   | none=>none
  | _,_=>none
 | _=>none
def stampSym(hp:List Ck)(x s v:SV):Option Res:=
 match x,s,toCells v with
 | .mp b,.int .i64 e,some vs=>
  match findMap hp b with
  | some (j,.map b' kl ka va zero (.upd h (.kc n a) y) cols)=>
   if n=kl.length∧rowLen vs=colsW cols∧isAggV v=va then
    match colPuts (.kc n a) vs cols with
    | some cols'=>some {val:= .undef,vcs:=[bLe (.lit 0) e,bEq (eSel (.upd h (.kc n a) y) (.kc n a)) (eAdd e (.lit 2))],rd:=[j],eff:= .set j (.map b' kl ka va zero (.upd h (.kc n a) y) cols')}
    | none=>none
   else none
  | _=>none
 | _,_,_=>none
def bytesOf(T:List TI)(nv:Nat)(k:TK)(v:SV):Option Res:=
 match k with
 | .slice e=>
  match tlook T e,toStrE v with
  | some te,some s=>if te.k= .int .u8∧te.size=1 then some {val:= .vv nv,vcs:=[bLe (.lit 0) (eLen s)].filter (fun b=>b != .lit true),eff:= .lend (.sli false nv e 1 (eLen s) [⟨.int .u8,1,eSby s⟩])}else none
  | _,_=>none
 | _=>none
def bytesOwn(T:List TI)(nv:Nat)(k:TK)(l:List UInt8):Option Res:=
 match k with
 | .slice e=>
  match tlook T e with
  | some te=>if te.k= .int .u8∧te.size=1∧l.length≤1000 then some {val:= .vv nv,eff:= .own (.sli true nv e 1 (.lit l.length) [⟨.int .u8,1,.rowl (l.map fun b=>(b.toNat:Int))⟩])}else none
  | none=>none
 | _=>none
def eBytesL(a n:E):E:=
 match litNat n with
 | some k=>match litsOf a k with
  | some l=> .rowl ((k:Int)::l)
  | none=>eBytes a n
 | none=>eBytes a n
def strOfSl(hp:List Ck):SV→Option Res
 | .nils=>some {val:= .str []}
 | .sl b i 1 n _=>
  match findAt hp b,litNat i,litNat n with
  | some (j,.row _ _ cs),some i,some n=>
   match rowCut i n cs with
   | some xs=>
    match rowOf xs with
    | some (kl,a)=>if kl=List.replicate n .u8 then some {val:=mkStr (eBytesL a (.lit n)),rd:=[j]}else none
    | none=>none
   | none=>none
  | some (j,.row _ _ [.seg .u8 m a]),some 0,none=>some {val:=mkStr (eBytesL a n),vcs:=[bLe n (.lit m)].filter (fun b=>b != .lit true),rd:=[j]}
  | _,_,_=>none
 | .vv v=>
  match findOwn hp v with
  | some (j,.sli _ _ _ 1 n [⟨.int .u8,1,a⟩])=>some {val:=mkStr (eBytesL a n),rd:=[j]}
  | _=>none
 | .vsub v cs s=>
  match rootSV hp (.vsub v cs s)with
  | some r=>match shiftCols r.p.lo r.cols with
   | some [⟨.int .u8,1,a⟩]=>if r.s=1∧r.s=colsW r.cols then some {val:=mkStr (eBytesL a r.p.len),vcs:=r.vcs++bLe' (.lit 0) r.p.len,rd:=[r.j]}else none
   | _=>none
  | none=>none
 | _=>none
def bytesStr(T:List TI)(hp:List Ck)(src:TypeId)(v:SV):Option Res:=
 match tlook T src with
 | some ts=>
  match ts.k with
  | .slice e=>
   match tlook T e with
   | some te=>if te.k= .int .u8 then strOfSl hp v else none
   | none=>none
  | _=>none
 | none=>none
def sliceNil(hp:List Ck)(ti:TI)(op:BinOp)(a b:SV):Option Res:=
 match ti.k,a,b with
 | .slice _,.vv i,.nils=>
  match findOwn hp i with
  | some (j,.sli ..)=>
   match op with
   | .eql=>some {val:= .bool (.vnil i),rd:=[j]}
   | .neq=>some {val:= .bool (bNot (.vnil i)),rd:=[j]}
   | _=>none
  | _=>none
 | _,_,_=>none
def ifaceNil(ti:TI)(op:BinOp)(y:Operand)(a:SV):Option Res:=
 match ti.k,y,a with
 | .iface,.const .nilIface,.nili=>
  match op with
  | .eql=>some {val:= .bool (.lit true)}
  | .neq=>some {val:= .bool (.lit false)}
  | _=>none
 | .iface,.const .nilIface,.ifl .. =>
  match op with
  | .eql=>some {val:= .bool (.lit false)}
  | .neq=>some {val:= .bool (.lit true)}
  | _=>none
 | .iface,.const .nilIface,.ifp .. =>
  match op with
  | .eql=>some {val:= .bool (.lit false)}
  | .neq=>some {val:= .bool (.lit true)}
  | _=>none
 | .iface,.const .nilIface,.ifv c _=>
  match op with
  | .eql=>some {val:= .bool (bNot c)}
  | .neq=>some {val:= .bool c}
  | _=>none
 | _,_,_=>none
def intOpt(look:Nat→Option SV):Option Operand→Option (Option E)
 | none=>some none
 | some o=>match opEval look o with
  | some (.int _ e)=>some (some e)
  | _=>none
def Ck.isSit(b:Nat):Ck→Bool
 | .sit b' _ _=>b==b'
 | _=>false
def nextSym(hp:List Ck):SV→Option Res
 | .ptr b 0=>
  match hp.findIdx? (Ck.isSit b)with
  | some j=>match hp[j]? with
   | some (.sit b' l pos)=>
    if b=b' then
     match l[pos]? with
     | some c=>if c.toNat<128 then some {val:= .tup [.bool (.lit true),.int .i64 (.lit pos),.int .i32 (.lit c.toNat)],rd:=[j],eff:= .set j (.sit b' l (pos+1))}else none
     | none=>some {val:= .tup [.bool (.lit false)],rd:=[j]}
    else none
   | _=>none
  | none=>none
 | _=>none
def rangeMap(hp:List Ck)(nb:Nat)(k:TK)(m:Nat):Option Res:=
 match k with
 | .map _ _=>
  match findMap hp m with
  | some (j,.map ..)=>some {val:= .ptr nb 0,rd:=[j],eff:= .new (.mit nb m)}
  | _=>none
 | _=>none
def Ck.isMit(b:Nat):Ck→Bool
 | .mit b' _=>b==b'
 | _=>false
def nextMap(hp:List Ck):SV→Option Res
 | .ptr b 0=>
  match hp.findIdx? (Ck.isMit b)with
  | some j=>match hp[j]? with
   | some (.mit b' m)=>
    if b=b' then
     match findMap hp m with
     | some (i,.map _ _ _ _ _ has _)=>if litNat (eSel has (.lit 0))=some 0 then some {val:= .tup [.bool (.lit false)],rd:=[j,i]}else none
     | _=>none
    else none
   | _=>none
  | none=>none
 | _=>none
def symOp(T:List TI)(look:Nat→Option SV)(hp:List Ck)(nb nv:Nat)(o:Oper):Option Res:=
 let ev:=opEval look
 match o.op with
 | .move x | .assign x=>(ev x).map fun v=>{val:=v}
 | .pick c a b=>
  match ev c,ev a,ev b with
  | some (.bool c),some a,some b=>(pickSym c a b).map fun v=>{val:=v}
  | _,_,_=>none
 | .alloc t=>(tlook T t).bind fun ti=>match ti.k with
  | .bld _ e=>if litSame ti.zero [.nilp,.nils]then some {val:= .ptr nb 0,eff:= .new (.bld nb t e (.lit 0) (.lit 0))}else none
  | _=>some {val:= .ptr nb 0,eff:= .new (.row nb true ti.zero)}
 | .box _ x=>
  match ev x with
  | some v=>(toCells v).map fun cs=>{val:= .ptr nb 0,eff:= .new (.row nb true cs)}
  | none=>none
 | .build t parts=>
  match tlook T t,partsOf look parts.toList with
  | some ti,some ps=>
   match ti.k with
   | .struct fs=>if tlookAll T fs then(fillSym (fieldPlaces T fs) ti.zero ps).map fun cs=>{val:= .agg cs}else none
   | .arr _ e=>
    match tlook T e with
    | some te=>(fillSym (elemPlaces te.size) ti.zero ps).map fun cs=>{val:= .agg cs}
    | none=>none
   | _=>none
  | _,_=>none
 | .buildSlice t len parts=>
  match tlook T t,partsOf look parts.toList with
  | some ti,some ps=>
   match ti.k with
   | .slice e=>
    match tlook T e with
    | some te=>if len=0 then(if ps.isEmpty then(zeroCols T te).map fun z=>{val:= .vv nv,eff:= .own (.sli true nv e te.size (.lit 0) z)}else none)else if te.size=0∨1000<len*te.size then none else(fillSym (elemPlaces te.size) (List.replicate len te.zero).flatten ps).map fun cs=>{val:= .sl nb (.lit 0) te.size (.lit len) (.lit len),eff:= .new (.row nb true cs)}
    | none=>none
   | _=>none
  | _,_=>none
 | .load t x=>
  match tlook T t,ev x with
  | some ti,some a=>loadSym hp ti.k.agg ti.size a
  | _,_=>none
 | .store t x y=>
  match tlook T t,ev x,ev y with
  | some ti,some a,some v=>storeSym hp ti.size v a
  | _,_,_=>none
 | .nilCheck x=>
  match ev x with
  | some (.ptr b c)=>some {val:= .ptr b c}
  | some (.ptri b i s c)=>some {val:= .ptri b i s c}
  | some (.ptrE e)=>some {val:= .ptrE e,vcs:=[bNz e]}
  | some (.pv v i s c)=>match findOwn hp v with
   | some (j,.sli _ _ _ _ n _)=>some {val:= .pv v i s c,vcs:=inRange i n,rd:=[j]}
   | _=>none
  | some (.fn f cs)=>some {val:= .fn f cs}
  | some (.ifp t b c)=>some {val:= .ifp t b c}
  | some (.fmi name t b c)=>match tlook T t with
   | some ti=>if ti.ms.any fun x=>x.1==name then some {val:= .fmi name t b c}else none
   | none=>none
  | _=>none
 | .binOp op t x y _=>
  match tlook T t,ev x,ev y with
  | some ti,some a,some b=>match ifaceNil ti op y a with
   | some r=>some r
   | none=>match sliceNil hp ti op a b with
   | some r=>some r
   | none=>binSym ti op a b
  | _,_,_=>none
 | .unOp op _ x=>
  match op,ev x with
  | .not,some (.bool b)=>some {val:= .bool (bNot b)}
  | .xor,some (.int k a)=>some {val:= .int k (eBin .bxor k (.lit (if isSigned k then -1 else IntKind.hi k)) a)}
  | .neg,some (.int k a)=>some {val:= .int k (fitK k (eSub (.lit 0) a)).1,vcs:=(fitK k (eSub (.lit 0) a)).2}
  | _,_=>none
 | .convert src dst x=>
  match tlook T src,tlook T dst,ev x with
  | some _,some ti,some (.int _ a)=>
   match ti.k with
   | .int k=>some {val:= .int k (convK k a).1,vcs:=(convK k a).2}
   | _=>none
  | some ts,some ti,some (.str l)=>if ts.k= .str then bytesOwn T nv ti.k l else none
  | some ts,some ti,some (.strE s)=>if ts.k= .str then bytesOf T nv ti.k (.strE s)else none
  | some _,some ti,some (.sl b i s n m)=>
   match ti.k with
   | .slice e=>
    match tlook T e,findAt hp b with
    | some te,some (j,.row b' true cs)=>if src=dst∧te.k= .int .u8 then some {val:= .sl b i s n m,rd:=[j],eff:= .set j (.row b' false cs)}else none
    | _,_=>none
   | .str=>bytesStr T hp src (.sl b i s n m)
   | _=>none
  | some _,some ti,some (.vv v)=>if ti.k= .str then bytesStr T hp src (.vv v)else none
  | some _,some ti,some (.vsub v cs s)=>if ti.k= .str then bytesStr T hp src (.vsub v cs s)else none
  | some _,some ti,some .nils=>if ti.k= .str then bytesStr T hp src .nils else none
  | _,_,_=>none
 | .makeInterface t x=>
  match tlook T t,ev x with
  | some ti,some (.int k e)=>if ti.k= .int k then some {val:= .ifl t k e}else none
  | some ti,some (.ptr b c)=>match ti.k with
   | .ptr _=>some {val:= .ifp t b c}
   | _=>none
  | _,_=>none
 | .sliceToArrayPointer arr x=>
  match tlook T arr,ev x with
  | some ta,some v=>
   match ta.k with
   | .arr n e=>
    match tlook T e with
    | some _=>
     if n=0 then none else
     match v with
     | .sl b i s m _=>some {val:=mkPtr b i s 0,vcs:=bLe' (.lit n) m}
     | v=>
      match rootSV hp v with
      | some r=>some {val:= .pv r.v r.p.lo r.s 0,vcs:=r.vcs++bLe' (.lit n) r.p.len,rd:=[r.j]}
      | none=>none
    | none=>none
   | _=>none
  | _,_=>none
 | .fieldAddr s x f=>
  match tlook T s,ev x with
  | some ts,some a=>
   match ts.k with
   | .struct fs=>
    match fs[f]? with
    | some (t,off)=>
     match tlook T t with
     | some ti=>if ti.size=0 then none else
      match a with
      | .ptr b c=>some {val:= .ptr b (c+off)}
      | .ptri b i s c=>some {val:= .ptri b i s (c+off)}
      | .pv v i s c=>
       match findOwn hp v with
       | some (j,.sli _ _ _ _ n _)=>some {val:= .pv v i s (c+off),vcs:=inRange i n,rd:=[j]}
       | _=>none
      | _=>none
     | none=>none
    | none=>none
   | _=>none
  | _,_=>none
 | .field s x f=>
  match tlook T s,ev x with
  | some ts,some (.agg cs)=>
   match ts.k with
   | .struct fs=>
    match fs[f]? with
    | some (t,off)=>
     match tlook T t with
     | some ti=>
      match rowCut off ti.size cs with
      | some x=>(ofCells ti.k.agg x).map fun v=>{val:=v}
      | none=>none
     | none=>none
    | none=>none
   | _=>none
  | _,_=>none
 | .indexAddr t x y=>
  match tlook T t,ev x,ev y with
  | some tt,some a,some (.int _ j)=>
   match tt.k with
   | .slice e=>
    match tlook T e with
    | some te=>
     match a with
     | .sl b i s n _=>if te.size=s then some {val:=mkPtr b (eAdd i j) s 0,vcs:=nonNeg i++inRange j n}else none
     | a=>
      match rootSV hp a with
      | some r=>if te.size=r.s then some {val:= .pv r.v (eAdd r.p.lo j) r.s 0,vcs:=r.vcs++inRange j r.p.len,rd:=[r.j]}else none
      | none=>none
    | none=>none
   | .arr n e=>
    match tlook T e with
    | some te=>
     match a with
     | .ptr b c=>some {val:=mkPtr b j te.size c,vcs:=inRange j (.lit n)}
     | _=>none
    | none=>none
   | _=>none
  | _,_,_=>none
 | .index t x y=>
  match tlook T t,ev x,ev y with
  | some tt,some (.agg cs),some (.int _ j)=>
   match tt.k with
   | .arr n e=>
    match tlook T e with
    | some te=>
     match litNat j with
     | some l=>if l<n then(match rowCut (l*te.size) te.size cs with
      | some x=>(ofCells te.k.agg x).map fun v=>{val:=v}
      | none=>none)else none
     | none=>
      match cs with
      | [.seg k m a]=>if m=n∧te.size=1∧te.k.agg=false then some {val:= .int k (eSel a j),vcs:=inRange j (.lit n)}else none
      | _=>none
    | none=>none
   | _=>none
  | some tt,some v,some (.int _ j)=>if tt.k= .str then idxStr v j else none
  | _,_,_=>none
 | .extract x i=>
  match ev x with
  | some (.tup vs)=>(vs[i]?).map fun v=>{val:=v}
  | _=>none
 | .makeFunc fn first caps=>
  match fn,first.toList with
  | .func f,[]=>(optAll (caps.toList.map ev)).map fun cs=>{val:= .fn f cs}
  | .func f,x::r=>if caps.isEmpty then(optAll ((x::r).map ev)).map fun cs=>{val:= .fm f cs}else none
  | .method name,[x]=>if caps.isEmpty then(match ev x with
   | some (.ifp t b c)=>some {val:= .fmi name t b c}
   | _=>none)else none
  | _,_=>none
 | .call c=>
  match c.callee,c.args.toList,c.argTypes.toList with
  | .builtin .len,[x],[t]=>
   match tlook T t,ev x with
   | some tt,some v=>lenSym hp tt.k v
   | _,_=>none
  | .builtin .cap,[x],[t]=>
   match tlook T t,ev x with
   | some tt,some .nils=>match tt.k with
    | .slice _=>some {val:= .int .i64 (.lit 0)}
    | _=>none
   | some tt,some (.vsub v cs s)=>match tt.k,rootSV hp (.vsub v cs s)with
    | .slice _,some r=>match r.p.mx with
     | some m=>some {val:= .int .i64 (eSub m r.p.lo),vcs:=r.vcs++bLe' r.p.lo m,rd:=[r.j]}
     | none=>none
    | _,_=>none
   | _,_=>none
  | .builtin .max,[x,y],_=>
   match ev x,ev y with
   | some (.int k a),some (.int _ b)=>some {val:= .int k (eBin .imax k a b)}
   | _,_=>none
  | .builtin .min,[x,y],_=>
   match ev x,ev y with
   | some (.int k a),some (.int _ b)=>some {val:= .int k (eBin .imin k a b)}
   | _,_=>none
  | .builtin .append,[x,y],[ts,ts']=>
   match tlook T ts,ev x,ev y with
   | some tt,some x,some y=>appendAny T hp nv tt ts ts' x y
   | _,_,_=>none
  | .builtin .clear,[x],[t]=>
   match tlook T t,ev x with
   | some tt,some v=>clearSym T hp tt.k v
   | _,_=>none
  | .builtin .copy,[x,y],[ts,ts']=>
   match tlook T ts,ev x,ev y with
   | some tt,some x,some y=>if ts=ts' then copySym T hp tt.k x y else none
   | _,_,_=>none
  | _,_,_=>none
 | .slice t x lo hi mx=>
  match tlook T t,ev x,intOpt look lo,intOpt look hi,intOpt look mx with
  | some tt,some v,some l,some h,some m=>if tt.k= .str then(if m.isSome then none else sliceStr v l h)else sliceSym T hp tt.k v l h m
  | _,_,_,_,_=>none
 | .makeMap t none=>makeMapSym T nb t
 | .lookup t x k comma=>
  match ev x,ev k with
  | some x,some k=>lookupSym T hp t x k comma
  | _,_=>none
 | .mapUpdate t x k v=>
  match ev x,ev k,ev v with
  | some x,some k,some v=>updateSym T hp t x k v
  | _,_,_=>none
 | .mapEntry t x k=>
  match ev x,ev k with
  | some x,some k=>entrySym T hp t x k
  | _,_=>none
 | .entryStore _ x s v=>
  match ev x,ev s,ev v with
  | some x,some s,some v=>stampSym hp x s v
  | _,_,_=>none
 | .insert t x k v=>
  match ev x,ev k,ev v with
  | some x,some k,some v=>updateSym T hp t x k v
  | _,_,_=>none
 | .makeSlice t n c=>
  match tlook T t,ev n,ev c with
  | some tt,some (.int _ n),some (.int _ c)=>makeSym T nv tt.k n c
  | _,_,_=>none
 | .range t x=>
  match tlook T t,ev x with
  | some ti,some (.str l)=>if ti.k= .str then some {val:= .ptr nb 0,eff:= .new (.sit nb l 0)}else none
  | some ti,some (.mp m)=>rangeMap hp nb ti.k m
  | _,_=>none
 | .next x true=>(ev x).bind (nextSym hp)
 | .next x false=>(ev x).bind (nextMap hp)
 | _=>none
end Go.RX
