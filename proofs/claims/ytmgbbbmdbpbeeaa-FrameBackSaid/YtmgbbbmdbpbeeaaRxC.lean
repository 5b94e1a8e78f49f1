/- Executor. -/
import Derived.Test.YtmgbbbmdbpbeeaaM00
namespace Go.RX
inductive CK where
 | int (k:IntKind) | bool | val (i:Nat) | ptr | cC | str | cv | qV (l:List Nat)
 deriving DecidableEq,Repr
structure bS where
 ck:CK
 w:Nat
 a:E
 deriving DecidableEq,Repr
inductive Jump where
 | none | ret | exit (id:Nat)
 deriving DecidableEq,Repr
def Jump.code:Jump→Option Code
 | .none=>Option.none
 | .ret=>some .ret
 | .exit id=>some (.exit id)
inductive RS where
 | ready | busy | done | exhausted
 deriving DecidableEq,Repr
def RS.st:RS→LoopState
 | .ready=> .ready
 | .busy=> .busy
 | .done=> .done
 | .exhausted=> .exhausted
inductive Ck where
 | emp
 | row (b:Nat) (wr:Bool) (cs:List SV)
 | bu (md:Bool) (v t s:Nat) (n:E) (aH:List bS)
 | abs (i:Nat)
 | kg (l r:Nat) (s:RS) (j:Jump)
 | JH (b:Nat)
 | qu (b:Nat)
 | map (b:Nat) (kl:List IntKind) (ka va:Bool) (zero:List SV) (has:E) (aH:List bS)
 | r8 (b:Nat) (kl:List IntKind) (ka va:Bool) (zero:List SV) (es:List (Nat×List SV))
 | HO (b t e:Nat) (n a:E)
 | KR (b:Nat) (l:List UInt8) (pos:Nat)
 deriving Repr,Inhabited
def aJ(k:IntKind)(w:Nat)(f:Nat→Int)(i:Nat):List Value:=aj k w fun j=>f (i*w+j)
def zu(w:Nat)(f:Nat→Int)(i:Nat):List Value:=(List.range w).map fun j=> .bool (!(f (i*w+j)==0))
def gX(w:Nat)(f:Nat→Value)(i:Nat):List Value:=(List.range w).map fun j=>f (i*w+j)
def xx(w:Nat)(f:Nat→Int)(i:Nat):List Value:=(List.range w).map fun j=>mM (f (i*w+j))
def bS.cells(ρ:Env)(c:bS):Nat→List Value:=
 match c.ck with
 | .int k=>aJ k c.w (c.a.den ρ)
 | .bool=>zu c.w (c.a.den ρ)
 | .val v=>gX c.w fun j=>((ρ.va.getD v fun _=>V1.nil) j).v
 | .ptr=>xx c.w (c.a.den ρ)
 | .cC=>gX c.w fun _=> .slice none 0 0
 | .str=>gX c.w fun j=> .string ⟨(bZ (oA (c.a.den ρ) j)).toArray⟩
 | .cv=>gX c.w fun j=>Bz (c.a.den ρ j)
 | .qV l=>gX c.w fun j=>((l[j]?).elim V1.nil fun n=>ρ.vv.getD n V1.nil).v
def aK(n:Nat)(cs:List (Nat→List Value)):List Value:=(List.range n).flatMap fun i=>cs.flatMap fun c=>c i
def aN(ρ:Env)(n:Nat)(aH:List bS):List Value:=aK n (aH.map (bS.cells ρ))
def mi(es:List (Nat×List SV))(zero:List SV)(k:Nat):List SV:=
 match es with
 | []=>zero
 | (i,v)::r=>if i=k then v else mi r zero k
def o7(es:List (Nat×List SV))(k:Nat):Bool:=
 match es with
 | []=>false
 | (i,_)::r=>if i=k then true else o7 r k
def zz(k:Nat)(v:List SV):List (Nat×List SV)→List (Nat×List SV)
 | []=>[(k,v)]
 | (i,u)::r=>if i=k then(k,v)::r else(i,u)::zz k v r
def Nf(es:List (Nat×List Value))(zero:List Value)(k:Nat):List Value:=
 match es with
 | []=>zero
 | (i,v)::r=>if i=k then v else Nf r zero k
def CI(ρ:Env)(es:List (Nat×List SV)):List (Nat×List Value):=
 match es with
 | []=>[]
 | (i,v)::r=>(i,SV.aB ρ v)::CI ρ r
theorem IK(ρ:Env)(zero:List SV)(k:Nat): ∀es:List (Nat×List SV),Nf (CI ρ es) (SV.aB ρ zero) k=SV.aB ρ (mi es zero k)
 | []=>rfl
 | (i,v)::r=>by simp only [CI,Nf,mi];split<;>first | rfl | exact IK ρ zero k r
def gJ:Loop:=⟨.ready,none,0,#[],#[],.skip,.skip,0⟩
noncomputable def Ck.den(ρ:Env):Ck→HP
 | .emp=>HP.emp
 | .row b wr cs=>aq (ρ.bv.getD b 0) wr (SV.aB ρ cs)
 | .bu md v t s n aH=>au md t s (ρ.vv.getD v V1.nil).v (n.den ρ 0).toNat (aN ρ (n.den ρ 0).toNat aH)
 | .abs i=>ρ.pv.getD i HP.emp
 | .kg l r s j=>Lq (ρ.bv.getD l 0) {ρ.lr.getD r gJ with state:=s.st,pending:=j.code}
 | .JH b=>xj (ρ.bv.getD b 0)
 | .qu b=>kd (oS (ρ.bv.getD b 0))
 | .map b kl ka va zero has aH=>uJ (ρ.bv.getD b 0) kl ka va (SV.aB ρ zero) (fun i=> !(has.den ρ i==0)) fun i=>(aH.map (bS.cells ρ)).flatMap fun c=>c i
 | .r8 b kl ka va zero es=>uJ (ρ.bv.getD b 0) kl ka va (SV.aB ρ zero) (fun i=>o7 es i) fun i=>Nf (CI ρ es) (SV.aB ρ zero) i
 | .HO b t e n a=>QR (ρ.bv.getD b 0) t e (aj .u8 (n.den ρ 0).toNat (a.den ρ))
 | .KR b l pos=>QQ (ρ.bv.getD b 0) l pos
theorem Ck.jX(ρ:Env)(b:Nat)(kl:List IntKind)(ka va:Bool)(zero:List SV)(es:List (Nat×List SV)):
  Ck.den ρ (.r8 b kl ka va zero es)=uJ (ρ.bv.getD b 0) kl ka va (SV.aB ρ zero) (fun i=>o7 es i) fun i=>SV.aB ρ (mi es zero i):=by
 simp only [Ck.den,IK]
inductive TK where
 | int (k:IntKind) | bool | str | ptr (e:Nat) | slice (e:Nat) | arr (n e:Nat) | struct (fs:List (Nat×Nat)) | map (k e:Nat) | func | iface | HO (fs:List (Nat×Nat)) (e:Nat)
 deriving DecidableEq,Repr
abbrev fJ:=Option IntKind
structure TI where
 t:Nat
 k:TK
 size:Nat
 bytes:Nat
 zero:List SV
 lay:List (fJ×Nat):=[]
 deriving Repr
def jR:List (fJ×Nat)→List fJ
 | []=>[]
 | (k,n)::r=>List.replicate n k++jR r
def o6:List SV→List fJ→Bool
 | [],[]=>true
 | .int k _::r,some k'::l=>k==k'&&o6 r l
 | .bool _::r,none::l=>o6 r l
 | .cD k n _::r,l=>decide (n≤l.length)&&(l.take n).all (· ==some k)&&o6 r (l.drop n)
 | _,_=>false
def aU(T:List TI)(t:Nat):Option TI:=T.find? fun i=>i.t==t
def TK.agg:TK→Bool
 | .arr .. =>true
 | .struct _=>true
 | .HO .. =>true
 | _=>false
def dp:E→E→E
 | .lit a,.lit b=> .lit (a+b)
 | .lit 0,b=>b
 | a,.lit 0=>a
 | a,b=> .bin .add .i64 a b
def tz:E→E→E
 | .lit a,.lit b=> .lit (a - b)
 | a,.lit 0=>a
 | a,b=> .bin .sub .i64 a b
def oU:E→E→E
 | .lit a,.lit b=> .lit (a*b)
 | .lit 1,b=>b
 | a,.lit 1=>a
 | a,b=> .bin .mul .i64 a b
def jt:E→E→E
 | a,.lit 0=>a
 | .lit n,_=> .lit n
 | a,o=> .shift a o
def E.T7:E→Bool
 | .lit _=>true
 | .var _=>true
 | .NV .. =>true
 | .bin .. =>true
 | .wrap .. =>true
 | .kc .. =>true
 | .ky _=>true
 | _=>false
def BC(v:E):E:=if v.T7 then v else .NV v (.lit 0)
def BD:E→E→E
 | .lit n,_=> .lit n
 | .oR a (.lit j) s,.lit i=>if i.toNat=j.toNat then s else BD a (.lit i)
 | .oR a j s,i=>if i=j then s else .OO (.oR a j s) i
 | a,i=> .OO a i
def fP:E→E→E
 | .lit n,_=> .lit n
 | .oz l,.lit i=> .lit (l.getD i.toNat 0)
 | .rO b (.lit j) v,.lit i=>if i.toNat=j.toNat then BC v else fP b (.lit i)
 | .shift b (.lit o),.lit i=>fP b (.lit (o.toNat+i.toNat:Nat))
 | .s7 b (.lit o) (.lit n) x,.lit i=>if o.toNat≤i.toNat∧i.toNat<o.toNat+n.toNat then fP x (.lit (i.toNat - o.toNat:Nat))else fP b (.lit i)
 | .rO b i v,i'=>if i=i' then BC v else .NV (.rO b i v) i'
 | a,i=> .NV a i
def tA(o:TX)(k:IntKind):E→E→E
 | .lit a,.lit b=> .lit (ak o k a b)
 | a,b=> .bin o k a b
def Lv(k:IntKind):E→E
 | .lit a=> .lit (k.wrap a)
 | a=> .wrap k a
def OU:E→BE
 | .lit n=> .lit (!(n==0))
 | a=> .nz a
def RU:E→E→BE
 | .lit a,.lit b=> .lit (a==b)
 | a,b=>if a=b then .lit true else .eq a b
def Gd:E→E→BE
 | .lit a,.lit b=> .lit (decide (a<b))
 | a,b=> .lt a b
def wo:E→E→BE
 | .lit a,.lit b=> .lit (decide (a≤b))
 | a,b=> .le a b
def iO:BE→BE
 | .lit b=> .lit (!b)
 | .not b=>b
 | b=> .not b
def zm:BE→BE→BE
 | .lit true,b=>b
 | .lit false,_=> .lit false
 | a,.lit true=>a
 | a,b=> .and a b
def Wh:BE→BE→BE
 | .lit false,b=>b
 | .lit true,_=> .lit true
 | a,.lit false=>a
 | a,b=> .or a b
def DR:BE→BE→BE→BE
 | .lit true,a,_=>a
 | .lit false,_,b=>b
 | c,.lit true,b=>Wh c b
 | c,a,.lit false=>zm c a
 | c,a,b=> .ite c a b
def zl(l:List UInt8):E:= .oz ((l.length:Int)::l.map fun b=>((b.toNat:Nat):Int))
def oV:SV→Option E
 | .str l=>some (zl l)
 | .kb s=>some s
 | _=>none
def mkStr:E→SV
 | .oz (n::l)=>if(n==(l.length:Int))&&l.all (fun b=>decide (0≤b)&&decide (b<256))then .str (l.map fun b=>UInt8.ofNat b.toNat)else .kb (.oz (n::l))
 | s=> .kb s
def jQ(s:E):E:=fP s (.lit 0)
def Jm:E→E
 | .oz (n::l)=>if l.all (fun b=>decide (0≤b)&&decide (b<256))then .oz l else .QN (.oz (n::l))
 | s=> .QN s
def qX(a n:E):E:= .rO (.s7 (.lit 0) (.lit 1) n a) (.lit 0) n
def Al(s lo hi:E):E:=
 match s with
 | .rO x (.lit 0) _=> .rO (jt x lo) (.lit 0) (tz hi lo)
 | s=> .rO (jt s lo) (.lit 0) (tz hi lo)
def Jp(s t:E):E:= .rO (.s7 s (dp (jQ s) (.lit 1)) (jQ t) (jt t (.lit 1))) (.lit 0) (dp (jQ s) (jQ t))
def OT(a b:E):BE:=if a=b then .lit true else .seq a b
mutual
def SV.width:SV→Nat
 | .cD _ n _=>n
 | .agg cs=>SV.oW cs
 | _=>1
def SV.oW:List SV→Nat
 | []=>0
 | v::r=>SV.width v+SV.oW r
end
abbrev jz(cs:List SV):Nat:=SV.oW cs
def eM:Nat→List SV→Option (List SV)
 | 0,cs=>some cs
 | _+1,[]=>some []
 | _+1,.agg _::_=>none
 | d+1,.cD k n a::r=>if d+1<n then some (.cD k (n - (d+1)) (jt a (.lit (d+1:Nat)))::r)else eM (d+1 - n) r
 | d+1,_::r=>eM d r
def gq:Nat→List SV→Option (List SV)
 | 0,_=>some []
 | _+1,[]=>some []
 | _+1,.agg _::_=>none
 | d+1,.cD k n a::r=>if d+1≤n then some [.cD k (d+1) a]else(gq (d+1 - n) r).map (.cD k n a:: ·)
 | d+1,v::r=>(gq d r).map (v:: ·)
def iP(c size:Nat)(cs:List SV):Option (List SV):=
 if c+size≤jz cs then
  match eM c cs with
  | some r=>gq size r
  | none=>none
 else none
def xw(c:Nat)(vs cs:List SV):Option (List SV):=
 if c+jz vs≤jz cs then
  match gq c cs,eM (c+jz vs) cs with
  | some a,some b=>some (a++vs++b)
  | _,_=>none
 else none
def hJ(agg:Bool)(cs:List SV):Option SV:=
 if agg then some (.agg cs)else
 match cs with
 | [.cD k 1 a]=>some (.int k (fP a (.lit 0)))
 | [.cD ..]=>none
 | [.agg _]=>none
 | [v]=>some v
 | _=>none
def SV.one:SV→Bool
 | .agg _=>false
 | .opt .. =>false
 | .undef=>false
 | .oJ _=>false
 | _=>true
def dO:SV→Option (List SV)
 | .agg cs=>if cs.all SV.one then some cs else none
 | v=>if v.one then some [v]else none
mutual
def ofValue:Value→Option SV
 | .int k n=>some (.int k (.lit n))
 | .bool b=>some (.bool (.lit b))
 | .pointer none=>some .iK
 | .slice none 0 0=>some .cC
 | .nilFunc=>some .mc
 | .nilIface=>some .rQ
 | .map none=>some .rR
 | .string ⟨⟨l⟩⟩=>some (.str l)
 | .tuple ⟨[]⟩=>some .undef
 | .agg ⟨l⟩=>(ofValues l).map .agg
 | _=>none
def ofValues:List Value→Option (List SV)
 | []=>some []
 | .agg _::_=>none
 | v::r=>match ofValue v,ofValues r with
  | some x,some xs=>some (x::xs)
  | _,_=>none
end
def hZ(look:Nat→Option SV):Operand→Option SV
 | .tmp t=>look t
 | .const v=>ofValue v
 | .global _=>none
 | .func f=>some (.fn f [])
def Ck.qs(b:Nat):Ck→Bool
 | .row b' _ _=>b==b'
 | _=>false
def Ck.lI(v:Nat):Ck→Bool
 | .bu _ v' _ _ _ _=>v==v'
 | _=>false
def findAt(hp:List Ck)(b:Nat):Option (Nat×Ck):=
 match hp.findIdx? (Ck.qs b)with
 | some i=>(hp[i]?).map fun c=>(i,c)
 | none=>none
def dH(hp:List Ck)(v:Nat):Option (Nat×Ck):=
 match hp.findIdx? (Ck.lI v)with
 | some i=>(hp[i]?).map fun c=>(i,c)
 | none=>none
def gv(i n:E):List BE:=
 [wo (.lit 0) i,Gd i n].filter fun b=>b != .lit true
def WV:E→SV
 | .ky b=> .ptr b 0
 | .lit n=>if n=0 then .iK else .nB (.lit n)
 | e=> .nB e
def eA:E→Option Nat
 | .lit (.ofNat n)=>some n
 | _=>none
def BG(c:bS)(i:E):Option SV:=
 match c.ck with
 | .int k=>if c.w=1 then some (.int k (fP c.a i))else some (.cD k c.w (jt c.a (oU i (.lit c.w))))
 | .bool=>if c.w=1 then some (.bool (OU (fP c.a i)))else none
 | .val v=>if c.w=1 then some (.DK v i)else none
 | .ptr=>if c.w=1 then some (WV (fP c.a i))else none
 | .cC=>if c.w=1 then some .cC else none
 | .str=>if c.w=1 then some (mkStr (BD c.a i))else none
 | .cv=>if c.w=1 then some (.KN (fP c.a i))else none
 | .qV l=>match eA i with
  | some k=>match l[k]? with
   | some n=>if c.w=1 then some (.vv n)else none
   | none=>none
  | none=>none
def mR(i:E):List bS→Option (List SV)
 | []=>some []
 | c::r=>match BG c i,mR i r with
  | some x,some xs=>some (x::xs)
  | _,_=>none
def bT(aH:List bS):Nat:=(aH.map bS.w).sum
def BI(i:E)(v:SV)(c:bS):Option bS:=
 match c.ck,v with
 | .int k,.int k' e=>if c.w=1∧k=k' then some {c with a:= .rO c.a i e}else none
 | .int k,.cD k' n b=>if c.w=n∧k=k' then some {c with a:= .s7 c.a (oU i (.lit n)) (.lit n) b}else none
 | .bool,.bool (.lit x)=>if c.w=1 then some {c with a:= .rO c.a i (.lit (if x then 1 else 0))}else none
 | .bool,.bool (.nz e)=>if c.w=1 then some {c with a:= .rO c.a i e}else none
 | .ptr,.ptr b o=>if c.w=1∧o=0 then some {c with a:= .rO c.a i (.ky b)}else none
 | .ptr,.iK=>if c.w=1 then some {c with a:= .rO c.a i (.lit 0)}else none
 | .ptr,.nB e=>if c.w=1 then some {c with a:= .rO c.a i e}else none
 | .cC,.cC=>if c.w=1 then some c else none
 | .str,.str l=>if c.w=1 then some {c with a:= .oR c.a i (zl l)}else none
 | .str,.kb s=>if c.w=1 then some {c with a:= .oR c.a i s}else none
 | .cv,.KN e=>if c.w=1 then some {c with a:= .rO c.a i e}else none
 | .cv,.cC=>if c.w=1 then some {c with a:= .rO c.a i (.lit 0)}else none
 | _,_=>none
def uM:Nat→E→List SV→Option (List IntKind×E)
 | _,acc,[]=>some ([],acc)
 | o,acc,.int k e::r=>match uM (o+1) (.rO acc (.lit o) e) r with
  | some (l,a)=>some (k::l,a)
  | none=>none
 | o,acc,.cD k n b::r=>match uM (o+n) (.s7 acc (.lit o) (.lit n) b) r with
  | some (l,a)=>some (List.replicate n k++l,a)
  | none=>none
 | _,_,_=>none
def rowOf(cs:List SV):Option (List IntKind×E):=
 match cs with
 | [.cD k n a]=>some (List.replicate n k,a)
 | [.int k e]=>some ([k],e)
 | cs=>uM 0 (.lit 0) cs
def align:List bS→List SV→Option (List SV)
 | _,[]=>some []
 | [],v::r=>some (v::r)
 | c::aH,v::r=>
  if v.width=c.w then(align aH r).map (v:: ·)else
  match c.ck,iP 0 c.w (v::r),eM c.w (v::r)with
  | .int k,some x,some rest=>
   match rowOf x with
   | some (kl,a)=>if kl=List.replicate c.w k then(align aH rest).map (.cD k c.w a:: ·)else none
   | none=>none
  | _,_,_=>none
def mT(i:E):List SV→List bS→Option (List bS)
 | [],aH=>some aH
 | v::r,c::aH=>match BI i v c,mT i r aH with
  | some c',some aT=>some (c'::aT)
  | _,_=>none
 | _::_,[]=>none
def kA(i:E)(vs:List SV)(aH:List bS):Option (List bS):=
 match align aH vs with
 | some FK=>mT i FK aH
 | none=>none
def mU(i:E)(vs:List SV):Nat→List bS→Option (List bS)
 | 0,aH=>kA i vs aH
 | _+1,[]=>none
 | o+1,c::r=>if c.w≤o+1 then(mU i vs (o+1 - c.w) r).map (c:: ·)else none
def HQ(c:Nat)(cs:List SV):Option (List SV×IntKind×Nat×E×List SV):=
 if c≤jz cs then
  match eM c cs,gq c cs with
  | some (.cD k n a::r),some pre=>some (pre,k,n,a,r)
  | _,_=>none
 else none
inductive zD where
 | none
 | new (ck:Ck)
 | set (i:Nat) (ck:Ck)
 | app (i:Nat) (ck:Ck)
 | own (ck:Ck)
 | D0 (ck:Ck)
 deriving Repr
structure gx where
 val:SV
 vcs:List BE:=[]
 rd:List Nat:=[]
 gg:zD:= .none
 deriving Repr
def tE(o:BinOp)(x y:SV):Option gx:=
 match x,y with
 | .str a,.str b=>
  match o with
  | .add=>if a.length+b.length≤1000000 then some {val:= .str (a++b)}else none
  | .eql=>some {val:= .bool (.lit (a==b))}
  | .neq=>some {val:= .bool (.lit (!(a==b)))}
  | _=>none
 | x,y=>
  match oV x,oV y with
  | some a,some b=>
   match o with
   | .add=>some {val:= .kb (Jp a b),vcs:=IL (jQ a)++IL (jQ b)++[wo (dp (jQ a) (jQ b)) (.lit 9223372036854775807)]}
   | .eql=>some {val:= .bool (OT a b)}
   | .neq=>some {val:= .bool (iO (OT a b))}
   | _=>none
  | _,_=>none
 where IL (b:E):List BE:=[wo (.lit 0) b].filter fun b=>b != .lit true
def Hm(v:SV)(j:E):Option gx:=
 match v with
 | .str l=>
  match j with
  | .lit (.ofNat i)=>if i<l.length then some {val:= .int .u8 (.lit (l.getD i 0).toNat)}else none
  | j=>some {val:= .int .u8 (fP (.oz (l.map fun b=>((b.toNat:Nat):Int))) j),vcs:=[wo (.lit 0) j,Gd j (.lit l.length)].filter fun b=>b != .lit true}
 | .kb s=>some {val:= .int .u8 (fP (Jm s) j),vcs:=[wo (.lit 0) j,Gd j (jQ s)].filter fun b=>b != .lit true}
 | _=>none
def rD(s a b:E):gx:={val:= .kb (Al s a b),vcs:=VH (.lit 0) a++VH a b++VH b (jQ s)}
 where VH (a b:E):List BE:=if a=b then []else [wo a b].filter fun b=>b != .lit true
def yP(v:SV)(lo hi:Option E):Option gx:=
 match v with
 | .str l=>
  match lo.getD (.lit 0),hi.getD (.lit l.length)with
  | .lit (.ofNat a),.lit (.ofNat b)=>if a≤b∧b≤l.length then some {val:= .str ((l.take b).drop a)}else none
  | a,b=>some (rD (zl l) a b)
 | .kb s=>some (rD s (lo.getD (.lit 0)) (hi.getD (jQ s)))
 | _=>none
structure cG where
 b:Nat:=0
 v:Nat:=0
 i:Nat:=0
 a:Nat:=0
 bo:Nat:=0
 p:Nat:=0
 r:Nat:=0
 deriving Repr,DecidableEq
def D3(b:Nat)(i:E)(s c:Nat):SV:=
 match eA i with
 | some n=> .ptr b (n*s+c)
 | none=> .oB b i s c
def dA(a b:E):List BE:=if a=b then []else [wo a b].filter fun b=>b != .lit true
def rY:Nat→E→List SV→Option E
 | _,acc,[]=>some acc
 | o,acc,.str l::r=>rY (o+1) (.oR acc (.lit o) (zl l)) r
 | o,acc,.kb s::r=>rY (o+1) (.oR acc (.lit o) s) r
 | _,_,_=>none
def Lz(cs:List SV):Option E:=rY 0 (.lit 0) cs
def wu(hp:List Ck)(agg:Bool)(size:Nat):SV→Option gx
 | .ptr b c=>
  match findAt hp b with
  | some (j,.row _ _ cs)=>
   match iP c size cs with
   | some x=>(hJ agg x).map fun v=>{val:=v,rd:=[j]}
   | none=>none
  | _=>none
 | .oB b i s c=>
  match findAt hp b with
  | some (j,.row _ _ cs)=>
   if s=1∧size=1∧agg=false then
    match HQ c cs with
    | some (_,k,n,a,_)=>some {val:= .int k (fP a i),vcs:=gv i (.lit n),rd:=[j]}
    | none=>if c=0 then match Lz cs with
     | some a=>some {val:=mkStr (BD a i),vcs:=gv i (.lit cs.length),rd:=[j]}
     | none=>none
     else none
   else none
  | _=>none
 | .pv v i s c=>
  match dH hp v with
  | some (j,.bu _ _ _ s' n aH)=>
   if s=s'∧s=bT aH then
    if s<size then
     match aH with
     | [⟨.int k,1,a⟩]=>if c=0∧agg=true then some {val:= .agg [.cD k size (jt a i)],vcs:=dA (.lit 0) i++dA (dp i (.lit size)) n,rd:=[j]}else none
     | _=>none
    else
    match mR i aH with
    | some es=>match iP c size es with
     | some y=>(hJ agg y).map fun x=>{val:=x,vcs:=gv i n,rd:=[j]}
     | none=>none
    | none=>none
   else none
  | _=>none
 | _=>none
def xE(hp:List Ck)(size:Nat)(v:SV):SV→Option gx
 | .ptr b c=>
  match findAt hp b,dO v with
  | some (j,.row b' true cs),some vs=>
   if jz vs=size then
    (xw c vs cs).map fun zh=>{val:= .undef,rd:=[j],gg:= .set j (.row b' true zh)}
   else none
  | _,_=>none
 | .oB b i s c=>
  match findAt hp b,dO v with
  | some (j,.row b' true cs),some [.int k e]=>
   if s=1∧size=1 then
    match HQ c cs with
    | some (pre,k',n,a,post)=>if k=k' then some {val:= .undef,vcs:=gv i (.lit n),rd:=[j],gg:= .set j (.row b' true (pre++ .cD k n (.rO a i e)::post))}else none
    | none=>none
   else none
  | _,_=>none
 | .pv x i s c=>
  match dH hp x,dO v with
  | some (j,.bu true x' t s' n aH),some vs=>
   if s=s'∧s=bT aH∧0<size∧jz vs=size then
    (mU i vs c aH).map fun aT=>{val:= .undef,vcs:=gv i n,rd:=[j],gg:= .set j (.bu true x' t s' n aT)}
   else none
  | _,_=>none
 | _=>none
def kB:List SV→List SV→Option BE
 | [],[]=>some (.lit true)
 | .int k a::r,.int k' b::r'=>if k=k' then(kB r r').map (zm (RU a b))else none
 | .bool a::r,.bool b::r'=>(kB r r').map (zm (DR a b (iO b)))
 | .cD k n a::r,.cD k' n' b::r'=>if k=k'∧n=n' then(kB r r').map (zm (if a=b then .lit true else .QO n a b))else none
 | _,_=>none
def lK:List SV→List SV
 | []=>[]
 | .cD k n a::r=>((List.range n).map fun j:Nat=>SV.int k (fP a (.lit j)))++lK r
 | v::r=>v::lK r
def xI(a b:List SV):Option BE:=
 match kB a b with
 | some c=>some c
 | none=>kB (lK a) (lK b)
def ptrEq(k:TK)(x y:SV):Option BE:=
 match k,x,y with
 | .ptr _,.iK,.iK=>some (.lit true)
 | .ptr _,.iK,.ptr .. =>some (.lit false)
 | .ptr _,.ptr ..,.iK=>some (.lit false)
 | .ptr _,.iK,.oB .. =>some (.lit false)
 | .ptr _,.oB ..,.iK=>some (.lit false)
 | .ptr _,.iK,.nB e=>some (RU e (.lit 0))
 | .ptr _,.nB e,.iK=>some (RU e (.lit 0))
 | .slice _,.cC,.cC=>some (.lit true)
 | .slice _,.cC,.sl .. =>some (.lit false)
 | .slice _,.sl ..,.cC=>some (.lit false)
 | .func,.mc,.mc=>some (.lit true)
 | .func,.mc,.fn .. =>some (.lit false)
 | .func,.fn ..,.mc=>some (.lit false)
 | _,_,_=>none
def IntKind.lo:IntKind→Int
 | .i8=> -128 | .i16=> -32768 | .i32=> -2147483648 | .i64=> -9223372036854775808 | _=>0
def IntKind.hi:IntKind→Int
 | .i8=>127 | .i16=>32767 | .i32=>2147483647 | .i64=>9223372036854775807
 | .u8=>255 | .u16=>65535 | .u32=>4294967295 | .u64=>18446744073709551615
def sR:IntKind→Bool
 | .i8 | .i16 | .i32 | .i64=>true
 | _=>false
def xG(k:IntKind)(e:E):E×List BE:=
 match e with
 | .lit n=>(.lit (k.wrap n),[])
 | _=>if sR k then(e,[.le (.lit (IntKind.lo k)) e,.le e (.lit (IntKind.hi k))])else(.wrap k e,[])
def xH(k:IntKind)(e:E):E×List BE:=
 match e with
 | .wrap .u64 (.bin .sub .i64 (.lit 0) _)=>if sR k then(.wrap k e,[])else xG k e
 | _=>xG k e
def nI(b:E):List BE:=[wo (.lit 0) b].filter fun b=>b != .lit true
def mh(ti:TI)(o:BinOp)(x y:SV):Option gx:=
 match x,y with
 | .int k a,.int k' b=>
  match o with
  | .shl=>some {val:= .int k (tA .shl k a b),vcs:=nI b}
  | .shr=>some {val:= .int k (tA .shr k a b),vcs:=nI b}
  | _=>
  if k≠k' then none else
  match o with
  | .add=>let (e,vc):=xG k (dp a b);some {val:= .int k e,vcs:=vc}
  | .sub=>let (e,vc):=xG k (tz a b);some {val:= .int k e,vcs:=vc}
  | .mul=>let (e,vc):=xG k (oU a b);some {val:= .int k e,vcs:=vc}
  | .quo=>some {val:= .int k (Lv k (tA .quo k a b)),vcs:=[OU b]}
  | .rem=>some {val:= .int k (tA .rem k a b),vcs:=[OU b]}
  | .and=>some {val:= .int k (tA .aQ k a b)}
  | .or=>some {val:= .int k (tA .bJ k a b)}
  | .xor=>some {val:= .int k (tA .aD k a b)}
  | .andNot=>some {val:= .int k (tA .OM k a b)}
  | .eql=>some {val:= .bool (RU a b)}
  | .neq=>some {val:= .bool (iO (RU a b))}
  | .lss=>some {val:= .bool (Gd a b)}
  | .leq=>some {val:= .bool (wo a b)}
  | .gtr=>some {val:= .bool (Gd b a)}
  | .geq=>some {val:= .bool (wo b a)}
  | _=>none
 | .bool a,.bool b=>
  if ti.k≠ .bool then none else
  match o with
  | .eql=>some {val:= .bool (DR a b (iO b))}
  | .neq=>some {val:= .bool (iO (DR a b (iO b)))}
  | _=>none
 | .agg a,.agg b=>
  if !ti.k.agg||ti.lay.isEmpty|| !(o6 a (jR ti.lay))|| !(o6 b (jR ti.lay))then none else
  match o,xI a b with
  | .eql,some c=>some {val:= .bool c}
  | .neq,some c=>some {val:= .bool (iO c)}
  | _,_=>none
 | a,b=>
  if ti.k= .str then tE o a b else
  match o,ptrEq ti.k a b with
  | .eql,some c=>some {val:= .bool c}
  | .neq,some c=>some {val:= .bool (iO c)}
  | _,_=>none
def jH(place:Nat→Option (Nat×Nat))(cells:List SV):List (Nat×List SV)→Option (List SV)
 | []=>some cells
 | (i,cs)::r=>
  match place i with
  | some (off,size)=>
   if jz cs=size then
    match xw off cs cells with
    | some Te=>jH place Te r
    | none=>none
   else none
  | none=>none
def fU(T:List TI)(fs:List (Nat×Nat))(i:Nat):Option (Nat×Nat):=
 match fs[i]? with
 | some (t,off)=>(aU T t).map fun ti=>(off,ti.size)
 | none=>none
def jy(size:Nat)(i:Nat):Option (Nat×Nat):=some (i*size,size)
def o8(T:List TI)(fs:List (Nat×Nat)):Bool:=fs.all fun f=>(aU T f.1).isSome
def partsOf(look:Nat→Option SV):List (Nat×Operand)→Option (List (Nat×List SV))
 | []=>some []
 | (i,x)::r=>
  match hZ look x,partsOf look r with
  | some v,some rest=>(dO v).map fun cs=>(i,cs)::rest
  | _,_=>none
def iS:List (Option SV)→Option (List SV)
 | []=>some []
 | some v::r=>(iS r).map (v:: ·)
 | none::_=>none
def CJ(c:BE)(a b:SV):Option SV:=
 match c with
 | .lit true=>some a
 | .lit false=>some b
 | c=>
  match a,b with
  | .bool x,.bool y=>some (.bool (DR c x y))
  | .bool x,.opt g (.bool y)=>if g=iO c then some (.bool (DR c x y))else none
  | .opt g (.bool x),.bool y=>if g=c then some (.bool (DR c x y))else none
  | _,_=>none
structure Part where
 lo:E
 len:E
 mx:Option E
 deriving Repr
def lM(n:E)(p:Part)(c:Cut):Part×List BE:=
 (⟨dp p.lo c.lo,tz c.hi c.lo,match c.mx with | some m=>some (dp p.lo m) | none=>p.mx⟩,
  dA (.lit 0) c.lo++dA c.lo c.hi++
  match c.mx,p.mx with
  | none,none=>dA (dp p.lo c.hi) n
  | none,some m0=>dA (dp p.lo c.hi) m0
  | some m,none=>dA c.hi m++dA (dp p.lo m) n
  | some m,some m0=>dA c.hi m++dA (dp p.lo m) m0)
def q_(n:E):List Cut→Part→Part×List BE
 | [],p=>(p,[])
 | c::r,p=>((q_ n r (lM n p c).1).1,(lM n p c).2++(q_ n r (lM n p c).1).2)
structure Rt where
 j:Nat
 md:Bool
 v:Nat
 t:Nat
 s:Nat
 n:E
 aH:List bS
 p:Part
 vcs:List BE
def eZ(hp:List Ck):SV→Option Rt
 | .vv v=>match dH hp v with
  | some (j,.bu md _ t s n aH)=>some ⟨j,md,v,t,s,n,aH,⟨.lit 0,n,none⟩,[]⟩
  | _=>none
 | .jP v cs s'=>match dH hp v with
  | some (j,.bu md _ t s n aH)=>if s=s' then some ⟨j,md,v,t,s,n,aH,(q_ n cs ⟨.lit 0,n,none⟩).1,(q_ n cs ⟨.lit 0,n,none⟩).2⟩else none
  | _=>none
 | _=>none
def Hn(hp:List Ck)(k:TK)(v:SV):Option gx:=
 match k with
 | .slice _=>
  match v with
  | .sl _ _ _ n _=>some {val:= .int .i64 n,vcs:=nI n}
  | .cC=>some {val:= .int .i64 (.lit 0)}
  | .vv v=>
   match dH hp v with
   | some (j,.bu _ _ _ _ n _)=>some {val:= .int .i64 n,vcs:=nI n,rd:=[j]}
   | _=>none
  | .jP v cs s=>
   match eZ hp (.jP v cs s)with
   | some r=>some {val:= .int .i64 r.p.len,vcs:=r.vcs++dA (.lit 0) r.p.len,rd:=[r.j]}
   | none=>none
  | _=>none
 | .str=>
  match v with
  | .str l=>some {val:= .int .i64 (.lit l.length)}
  | .kb s=>some {val:= .int .i64 (jQ s),vcs:=nI (jQ s)}
  | _=>none
 | _=>none
mutual
def ui(T:List TI):Nat→Nat→Option (List bS)
 | 0,_=>none
 | d+1,t=>
  match aU T t with
  | some {k:= .int k,.. }=>some [⟨.int k,1,.lit 0⟩]
  | some {k:= .bool,.. }=>some [⟨.bool,1,.lit 0⟩]
  | some {k:= .ptr _,.. }=>some [⟨.ptr,1,.lit 0⟩]
  | some {k:= .slice _,.. }=>some [⟨.cC,1,.lit 0⟩]
  | some {k:= .str,.. }=>some [⟨.str,1,.lit 0⟩]
  | some {k:= .arr n e,.. }=>match aU T e with
   | some {k:= .int k,.. }=>some [⟨.int k,n,.lit 0⟩]
   | _=>none
  | some {k:= .struct fs,.. }=>IM T d fs
  | _=>none
def IM(T:List TI):Nat→List (Nat×Nat)→Option (List bS)
 | 0,_=>none
 | _+1,[]=>some []
 | d+1,(t,_)::r=>match ui T d t,IM T d r with
  | some a,some b=>some (a++b)
  | _,_=>none
end
def uj(T:List TI)(hp:List Ck)(nv:Nat)(k:TK)(x y:SV):Option gx:=
 match x,y with
 | .vv v,.sl b i s m _=>
  match dH hp v,findAt hp b with
  | some (j,.bu true _ t s' n aH),some (j',.row _ _ cs)=>
   match kA n cs aH,aU T t with
   | some aT,some te=>
    if i= .lit 0∧m= .lit 1∧k= .slice t∧s=s'∧s=bT aH∧jz cs=s∧0<s∧cs.all SV.one=true∧te.size=s then
     some {val:= .vv nv,vcs:=nI n++[.le (.bin .mul .i64 (.bin .add .i64 n (.lit 1)) (.lit (max 1 te.bytes:Nat))) (.lit 140737488355328)],rd:=[j,j'],gg:= .app j (.bu true nv t s (dp n (.lit 1)) aT)}
    else none
   | _,_=>none
  | _,_=>none
 | .cC,.sl b i s m _=>
  match findAt hp b,k with
  | some (j',.row _ _ cs),.slice t=>
   match aU T t,ui T 30 t with
   | some te,some aH=>
    match kA (.lit 0) cs aH with
    | some aT=>
     if i= .lit 0∧m= .lit 1∧s=bT aH∧jz cs=s∧0<s∧cs.all SV.one=true∧te.size=s∧te.bytes≤140737488355328 then
      some {val:= .vv nv,rd:=[j'],gg:= .own (.bu true nv t s (.lit 1) aT)}
     else none
    | none=>none
   | _,_=>none
  | _,_=>none
 | _,_=>none
def xN(x:SV)(c:Cut)(s:Nat):Option SV:=
 match x with
 | .vv v=>some (.jP v [c] s)
 | .jP v cs s'=>if s=s' then some (.jP v (cs++[c]) s)else none
 | _=>none
def xP(T:List TI)(hp:List Ck)(k:TK)(x:SV)(lo hi mx:Option E):Option gx:=
 if mx.isSome&&hi.isNone then none else
 match k,x with
 | .slice e,.sl b i s n m=>
  match aU T e with
  | some te=>
   if te.size=s then
    let l:=lo.getD (.lit 0)
    let h:=hi.getD n
    let mm:=mx.getD m
    some {val:= .sl b (dp i l) s (tz h l) (tz mm l),vcs:=dA (.lit 0) i++dA (.lit 0) l++dA l h++dA h mm++dA mm m++dA (.lit 0) n++(if l= .lit 0 then []else [Gd l mm].filter fun b=>b != .lit true)}
   else none
  | none=>none
 | .slice e,.cC=>
  match aU T e with
  | some _=>if lo.getD (.lit 0)= .lit 0∧hi.getD (.lit 0)= .lit 0∧mx.getD (.lit 0)= .lit 0 then some {val:= .cC}else none
  | none=>none
 | .slice e,x=>
  match aU T e,eZ hp x with
  | some te,some r=>
   if te.size=r.s then
    let c:Cut:=⟨lo.getD (.lit 0),hi.getD r.p.len,mx⟩
    match xN x c r.s with
    | some v=>some {val:=v,vcs:=r.vcs++(lM r.n r.p c).2,rd:=[r.j]}
    | none=>none
   else none
  | _,_=>none
 | .arr n e,.ptr b c=>
  match aU T e with
  | some te=>
   if te.size≠0∧c%te.size=0 then
    let l:=lo.getD (.lit 0)
    let h:=hi.getD (.lit n)
    let mm:=mx.getD (.lit n)
    some {val:= .sl b (dp (.lit (c/te.size:Nat)) l) te.size (tz h l) (tz mm l),vcs:=dA (.lit 0) l++dA l h++dA h mm++dA mm (.lit n)++(if l= .lit 0 then []else [Gd l mm].filter fun b=>b != .lit true)}
   else none
  | none=>none
 | _,_=>none
def D6(lo:E)(c:bS):Option bS:=
 match c.ck with
 | .val _=>if lo= .lit 0 then some c else none
 | .qV _=>if lo= .lit 0 then some c else none
 | .str=>if lo= .lit 0 then some c else none
 | _=>some {c with a:=jt c.a (oU lo (.lit c.w))}
def gD(lo:E):List bS→Option (List bS)
 | []=>some []
 | c::r=>match D6 lo c,gD lo r with
  | some a,some b=>some (a::b)
  | _,_=>none
def Gr(at_ m:E)(d s:bS):Option bS:=
 if d.w≠s.w then none else
 match d.ck,s.ck with
 | .int k,.int k'=>if k=k' then some {d with a:= .s7 d.a (oU at_ (.lit d.w)) (oU m (.lit d.w)) s.a}else none
 | .bool,.bool=>some {d with a:= .s7 d.a (oU at_ (.lit d.w)) (oU m (.lit d.w)) s.a}
 | .ptr,.ptr=>some {d with a:= .s7 d.a (oU at_ (.lit d.w)) (oU m (.lit d.w)) s.a}
 | .cC,.cC=>some d
 | .str,.str=>if m= .lit 1∧d.w=1 then some {d with a:= .oR d.a at_ (BD s.a (.lit 0))}else if m= .lit 0 then some d else none
 | _,_=>none
def fK(at_ m:E):List bS→List bS→Option (List bS)
 | [],[]=>some []
 | d::r,s::r'=>match Gr at_ m d s,fK at_ m r r' with
  | some a,some b=>some (a::b)
  | _,_=>none
 | _,_=>none
structure Src where
 rd:List Nat
 vcs:List BE
 n:E
 aH:List bS
def sh(s:Nat):Nat→Nat→List SV→List bS→Option (List bS)
 | 0,_,_,aH=>some aH
 | k+1,i,cs,aH=>
  match iP 0 s cs,eM s cs with
  | some a,some b=>match kA (.lit i) a aH with
   | some aT=>sh s k (i+1) b aT
   | none=>none
  | _,_=>none
def Ap(T:List TI)(hp:List Ck)(te:TI)(y:SV):Option Src:=
 match y with
 | .cC=>match ui T 30 te.t with
  | some aH=>if te.size=bT aH then some ⟨[],[],.lit 0,aH⟩else none
  | none=>none
 | .sl b i s m _=>
  match findAt hp b with
  | some (j,.row _ _ cs)=>
   if s≠te.size then none else
   match eA i,eA m with
   | some i0,some m0=>
    match iP (i0*s) (m0*s) cs with
    | some [.cD k N a]=>if s=1∧N=m0 then some ⟨[j],[],.lit m0,[⟨.int k,1,a⟩]⟩else none
    | some x=>
     if x.all SV.one then
      match ui T 30 te.t with
      | some aH=>if s=bT aH then(sh s m0 0 x aH).map fun aT=>⟨[j],[],.lit m0,aT⟩else none
      | none=>none
     else none
    | none=>none
   | _,_=>
    match cs with
    | [.cD k N a]=>if s=1 then some ⟨[j],dA (.lit 0) i++dA (.lit 0) m++dA (dp i m) (.lit N),m,[⟨.int k,1,jt a i⟩]⟩else none
    | _=>none
  | _=>none
 | x=>
  match eZ hp x with
  | some r=>
   if r.s=te.size∧r.s=bT r.aH then
    (gD r.p.lo r.aH).map fun aH=>⟨[r.j],r.vcs++dA (.lit 0) r.p.len,r.p.len,aH⟩
   else none
  | none=>none
def oc(n:E)(bytes:Nat):BE:=wo (oU n (.lit (max 1 bytes:Nat))) (.lit 140737488355328)
def Nn(y:SV)(v:Nat):Bool:=
 match y with
 | .vv v'=>v'==v
 | .jP v' _ _=>v'==v
 | _=>false
def rE(T:List TI)(hp:List Ck)(nv:Nat)(k:TK)(x y:SV):Option gx:=
 match k with
 | .slice t=>
  match aU T t with
  | some te=>
   match Ap T hp te y with
   | some sc=>
    if te.size=0 then none else
    match x with
    | .cC=>some {val:= .vv nv,vcs:=sc.vcs++dA (.lit 0) sc.n++[oc sc.n te.bytes],rd:=sc.rd,gg:= .own (.bu true nv t te.size sc.n sc.aH)}
    | .sl b i s n m=>
     match Ap T hp te (.sl b i s n m),eA sc.n with
     | some x,some (_+1)=>
      if x.n=n∧n=m∧s=te.size then
       (fK n sc.n x.aH sc.aH).map fun aT=>{val:= .vv nv,vcs:=x.vcs++sc.vcs++dA (.lit 0) n++[oc (dp n sc.n) te.bytes],rd:=x.rd++sc.rd,gg:= .own (.bu true nv t te.size (dp n sc.n) aT)}
      else none
     | _,_=>none
    | x=>
     match eZ hp x with
     | some r=>
      if r.t=t∧r.s=te.size∧r.s=bT r.aH∧r.md=true then
       if Nn y r.v then
        match x,fK (dp r.p.lo r.p.len) sc.n r.aH sc.aH with
        | .jP v [⟨lo,hi,none⟩] s,some aT=>
         some {val:= .jP v [⟨lo,dp hi sc.n,none⟩] s,vcs:=r.vcs++sc.vcs++dA (.lit 0) sc.n++dA (dp hi sc.n) r.n,rd:=r.j::sc.rd,gg:= .set r.j (.bu true r.v t r.s r.n aT)}
        | _,_=>none
       else
        match gD r.p.lo r.aH with
        | some rc=>
         match (if r.p.len= .lit 0 then some sc.aH else fK r.p.len sc.n rc sc.aH)with
         | some aT=>
          some {val:= .vv nv,vcs:=r.vcs++sc.vcs++dA (.lit 0) r.p.len++dA (.lit 0) sc.n++[oc (dp r.p.len sc.n) te.bytes],rd:=r.j::sc.rd,gg:= .app r.j (.bu true nv t r.s (dp r.p.len sc.n) aT)}
         | none=>none
        | none=>none
      else none
     | none=>none
   | none=>none
  | none=>none
 | _=>none
def jd:List SV→List bS→Bool
 | [],[]=>true
 | .int k (.lit 0)::r,⟨.int k',w,.lit 0⟩::aH=>k==k'&&w==1&&jd r aH
 | .bool (.lit false)::r,⟨.bool,w,.lit 0⟩::aH=>w==1&&jd r aH
 | .cD k n (.lit 0)::r,⟨.int k',w,.lit 0⟩::aH=>k==k'&&w==n&&jd r aH
 | .iK::r,⟨.ptr,w,.lit 0⟩::aH=>w==1&&jd r aH
 | .cC::r,⟨.cC,w,_⟩::aH=>w==1&&jd r aH
 | .str []::r,⟨.str,w,.lit 0⟩::aH=>w==1&&jd r aH
 | _,_=>false
def gf(T:List TI)(te:TI):Option (List bS):=
 match ui T 30 te.t with
 | some aH=>if jd te.zero aH&&bT aH==te.size&& !(te.size==0)then some aH else none
 | none=>none
def yQ(T:List TI)(hp:List Ck)(k:TK)(x:SV):Option gx:=
 match k,x with
 | .slice _,.cC=>some {val:= .undef}
 | .slice e,x=>
  match aU T e,eZ hp x with
  | some te,some r=>
   match gf T te with
   | some z=>
    if r.s=te.size∧r.s=bT r.aH∧r.md=true then
     (fK r.p.lo r.p.len r.aH z).map fun aT=>{val:= .undef,vcs:=r.vcs++dA (.lit 0) r.p.len,rd:=[r.j],gg:= .set r.j (.bu true r.v r.t r.s r.n aT)}
    else none
   | none=>none
  | _,_=>none
 | _,_=>none
def vY:E→E→E
 | .lit a,.lit b=> .lit (min a b)
 | a,b=>if a=b then a else .bin .tu .i64 a b
def CL(T:List TI)(hp:List Ck)(k:TK)(x y:SV):Option gx:=
 match k with
 | .slice t=>
  match aU T t with
  | some te=>
   match Ap T hp te y with
   | some sc=>
    match x with
    | .sl b i s n _=>
     match findAt hp b with
     | some (j,.row b' true cs)=>
      if s≠te.size∨s=0 then none else
      match cs with
      | [.cD k N a]=>
       match sc.aH with
       | [⟨.int k',1,a'⟩]=>
        if s=1∧k=k' then
         some {val:= .int .i64 (vY sc.n n),vcs:=sc.vcs++dA (.lit 0) sc.n++dA (.lit 0) i++dA (.lit 0) n++dA (dp i n) (.lit N),rd:=j::sc.rd,gg:= .set j (.row b' true [.cD k N (.s7 a i (vY sc.n n) a')])}
        else none
       | _=>none
      | _=>
       match eA i,eA n,eA sc.n,sc.aH with
       | some i0,some n0,some m0,[⟨.int k',1,a'⟩]=>
        if s=1 then
         (xw i0 [.cD k' (min m0 n0) a'] cs).map fun zh=>{val:= .int .i64 (.lit (min m0 n0:Nat)),vcs:=sc.vcs,rd:=j::sc.rd,gg:= .set j (.row b' true zh)}
        else none
       | _,_,_,_=>none
     | _=>none
    | x=>
     match eZ hp x with
     | some r=>
      if r.t=t∧r.s=te.size∧r.s=bT r.aH∧r.md=true∧0<r.s then
       (fK r.p.lo (vY sc.n r.p.len) r.aH sc.aH).map fun aT=>
        {val:= .int .i64 (vY sc.n r.p.len),vcs:=r.vcs++sc.vcs++dA (.lit 0) r.p.len++dA (.lit 0) sc.n,rd:=r.j::sc.rd,gg:= .set r.j (.bu true r.v t r.s r.n aT)}
      else none
     | none=>none
   | none=>none
  | none=>none
 | _=>none
def CM(T:List TI)(nv:Nat)(k:TK)(n c:E):Option gx:=
 match k with
 | .slice t=>
  match aU T t with
  | some te=>
   match gf T te with
   | some z=>some {val:= .vv nv,vcs:=dA (.lit 0) n++dA n c++[oc c te.bytes],gg:= .own (.bu true nv t te.size n z)}
   | none=>none
  | none=>none
 | _=>none
def BT(T:List TI)(hp:List Ck)(nv:Nat)(k:TK)(x:SV)(m:E):Option gx:=
 match k,x with
 | .slice t,.vv v=>
  match aU T t,dH hp v with
  | some te,some (j,.bu true _ t' s n aH)=>
   match gf T te with
   | some z=>
    match fK n m aH z with
    | some aT=>
     if t'=t∧s=te.size∧s=bT aH then
      some {val:= .vv nv,vcs:=dA (.lit 0) n++dA (.lit 0) m++[oc (dp n m) te.bytes],rd:=[j],gg:= .app j (.bu true nv t s (dp n m) aT)}
     else none
    | none=>none
   | none=>none
  | _,_=>none
 | .slice t,.cC=>
  match aU T t with
  | some te=>
   match gf T te with
   | some z=>
    if te.size=bT z then
     some {val:= .vv nv,vcs:=dA (.lit 0) m++[oc m te.bytes],gg:= .own (.bu true nv t te.size m z)}
    else none
   | none=>none
  | none=>none
 | _,_=>none
def uk(T:List TI)(hp:List Ck)(nv:Nat)(k:TK)(x y:SV):Option gx:=
 match k,x with
 | .slice t,.sl b i s n m=>
  match aU T t,findAt hp b,eA i,eA n with
  | some te,some (j,.row _ true cs),some 0,some q=>
   match rowOf cs,Ap T hp te y with
   | some (ki::kl,a),some sc=>
    if n=m∧s=1∧te.size=1∧kl.length+1=q∧ki::kl=List.replicate q ki then
     (fK (.lit q) sc.n [⟨.int ki,1,a⟩] sc.aH).map fun aT=>
      {val:= .vv nv,vcs:=sc.vcs++dA (.lit 0) sc.n++[oc (dp (.lit q) sc.n) te.bytes],rd:=j::sc.rd,gg:= .app j (.bu true nv t 1 (dp (.lit q) sc.n) aT)}
    else none
   | _,_=>none
  | _,_,_,_=>none
 | _,_=>none
def wK:List SV→Option (List Nat)
 | []=>some []
 | .vv i::r=>(wK r).map (i:: ·)
 | _=>none
def sS(hp:List Ck):SV→Option (Nat×List Nat)
 | .sl b i _ n _=>
  match findAt hp b,eA i,eA n with
  | some (j,.row _ _ cs),some 0,some q=>
   match wK cs with
   | some l=>if l.length=q then some (j,l)else none
   | none=>none
  | _,_,_=>none
 | _=>none
def um(T:List TI)(hp:List Ck)(nv:Nat)(k:TK)(x y:SV):Option gx:=
 match k,x with
 | .slice t,.sl b i s n m=>
  match aU T t,sS hp (.sl b i s n m),sS hp y with
  | some te,some (j,l),some (j',l')=>
   if n=m∧te.size=1∧l'.length≠0∧(l.length+l'.length)*te.bytes≤140737488355328∧l.length+l'.length≤140737488355328 then
    some {val:= .vv nv,rd:=[j,j'],gg:= .own (.bu true nv t 1 (.lit (l.length+l'.length:Nat)) [⟨.qV (l++l'),1,.lit 0⟩])}
   else none
  | _,_,_=>none
 | _,_=>none
def uo(T:List TI)(hp:List Ck)(nv:Nat)(tt:TI)(ts TH:Nat)(x y:SV):Option gx:=
 if ts=TH then(match uj T hp nv tt.k x y with | some r=>some r | none=>match rE T hp nv tt.k x y with | some r=>some r | none=>match uk T hp nv tt.k x y with | some r=>some r | none=>um T hp nv tt.k x y)else(match aU T TH,y with
    | some ti,.int _ m=>match ti.k with
     | .int _=>BT T hp nv tt.k x m
     | _=>none
    | _,_=>none)
def LK(a:E)(i:Nat):Option Int:=
 match fP a (.lit i)with
 | .lit n=>some n
 | _=>none
def tI(a:E):Nat→Option (List Int)
 | 0=>some []
 | n+1=>match tI a n,LK a n with
  | some l,some x=>some (l++[x])
  | _,_=>none
def O6(n:Nat)(a:E):E:=
 match tI a n with
 | some l=> .lit (cI l:Nat)
 | none=> .kc n a
def rh:List fJ→Option (List IntKind)
 | []=>some []
 | some k::r=>(rh r).map (k:: ·)
 | none::_=>none
def pe(ti:TI):Option (List IntKind×Bool):=
 match ti.k with
 | .int k=>some ([k],false)
 | .struct _=>if ti.lay.isEmpty then none else(rh (jR ti.lay)).map fun l=>(l,true)
 | .arr .. =>if ti.lay.isEmpty then none else(rh (jR ti.lay)).map fun l=>(l,true)
 | _=>none
def si(ka:Bool)(k:SV):Option (List SV):=
 match ka,k with
 | true,.agg cs=>some cs
 | false,.int q e=>some [.int q e]
 | _,_=>none
def tJ(T:List TI)(te:TI):Option (List bS):=
 if te.size=0 then(if te.zero.isEmpty&&te.k.agg then some []else none)else gf T te
def Ck.isMap(b:Nat):Ck→Bool
 | .map b' .. =>b==b'
 | .r8 b' .. =>b==b'
 | _=>false
def wz(hp:List Ck)(b:Nat):Option (Nat×Ck):=
 match hp.findIdx? (Ck.isMap b)with
 | some i=>(hp[i]?).map fun c=>(i,c)
 | none=>none
def eo:List SV→List SV→Bool
 | [],[]=>true
 | .int k (.lit n)::r,.int k' (.lit m)::s=>k==k'&&n==m&&eo r s
 | .bool (.lit a)::r,.bool (.lit b)::s=>a==b&&eo r s
 | .cD k n (.lit a)::r,.cD k' n' (.lit b)::s=>k==k'&&n==n'&&a==b&&eo r s
 | .iK::r,.iK::s=>eo r s
 | .cC::r,.cC::s=>eo r s
 | .mc::r,.mc::s=>eo r s
 | .rQ::r,.rQ::s=>eo r s
 | .rR::r,.rR::s=>eo r s
 | .str l::r,.str l'::s=>l==l'&&eo r s
 | _,_=>false
def TK.isSlice:TK→Bool
 | .slice _=>true
 | _=>false
def ri(T:List TI)(nb t:Nat):Option gx:=
 match aU T t with
 | some {k:= .map kt vt,.. }=>
  match aU T kt,aU T vt with
  | some tk,some tv=>
   match pe tk,(if tv.k.isSlice then none else tJ T tv)with
   | some (kl,ka),some aH=>some {val:= .mp nb,gg:= .new (.map nb kl ka tv.k.agg tv.zero (.lit 0) aH)}
   | some (kl,ka),none=>some {val:= .mp nb,gg:= .new (.r8 nb kl ka tv.k.agg tv.zero [])}
   | _,_=>none
  | _,_=>none
 | _=>none
def tL(T:List TI)(hp:List Ck)(t:Nat)(x k:SV)(comma:Bool):Option gx:=
 match aU T t with
 | some {k:= .map kt vt,.. }=>
  match aU T kt,aU T vt with
  | some tk,some tv=>
   match pe tk with
   | some (kl,ka)=>
    match si ka k with
    | some kc=>
     match rowOf kc with
     | some (KS,a)=>
      if KS≠kl then none else
      match x with
      | .rR=>(hJ tv.k.agg tv.zero).map fun v=>{val:=if comma then .oJ [v,.bool (.lit false)]else v}
      | .mp b=>
       match wz hp b with
       | some (j,.map _ xT LM JG Aq has aH)=>
        if xT=kl∧LM=ka∧JG=tv.k.agg∧eo Aq tv.zero=true then
         match mR (O6 kl.length a) aH with
         | some es=>(hJ tv.k.agg es).map fun v=>{val:=if comma then .oJ [v,.bool (OU (fP has (O6 kl.length a)))]else v,rd:=[j]}
         | none=>none
        else none
       | some (j,.r8 _ xT LM JG Aq es)=>
        if xT=kl∧LM=ka∧JG=tv.k.agg∧eo Aq tv.zero=true then
         match O6 kl.length a with
         | .lit n=>(hJ tv.k.agg (mi es Aq n.toNat)).map fun v=>{val:=if comma then .oJ [v,.bool (.lit (o7 es n.toNat))]else v,rd:=[j]}
         | _=>none
        else none
       | _=>none
      | _=>none
     | none=>none
    | none=>none
   | none=>none
  | _,_=>none
 | _=>none
def BS:SV→Bool
 | .agg _=>true
 | .cD .. =>true
 | _=>false
def p7(T:List TI)(hp:List Ck)(t:Nat)(x k v:SV):Option gx:=
 match aU T t with
 | some {k:= .map kt vt,.. }=>
  match aU T kt,aU T vt with
  | some tk,some tv=>
   match pe tk with
   | some (kl,ka)=>
    match si ka k,dO v with
    | some kc,some vs=>
     match rowOf kc,x with
     | some (KS,a),.mp b=>
      match wz hp b with
      | some (j,.map b' xT LM JG zero has aH)=>
       if KS=kl∧xT=kl∧LM=ka∧JG=tv.k.agg∧jz vs=bT aH∧BS v=tv.k.agg then
        match kA (O6 kl.length a) vs aH with
        | some aT=>some {val:= .undef,rd:=[j],gg:= .set j (.map b' kl ka JG zero (.rO has (O6 kl.length a) (.lit 1)) aT)}
        | none=>none
       else none
      | some (j,.r8 b' xT LM JG zero es)=>
       if KS=kl∧xT=kl∧LM=ka∧JG=tv.k.agg∧BS v=tv.k.agg then
        match O6 kl.length a with
        | .lit n=>some {val:= .undef,rd:=[j],gg:= .set j (.r8 b' kl ka JG zero (zz n.toNat vs es))}
        | _=>none
       else none
      | _=>none
     | _,_=>none
    | _,_=>none
   | none=>none
  | _,_=>none
 | _=>none
def bytesOf(T:List TI)(nv:Nat)(k:TK)(v:SV):Option gx:=
 match k with
 | .slice e=>
  match aU T e,oV v with
  | some te,some s=>if te.k= .int .u8∧te.size=1 then some {val:= .vv nv,vcs:=[wo (.lit 0) (jQ s)].filter (fun b=>b != .lit true),gg:= .D0 (.bu false nv e 1 (jQ s) [⟨.int .u8,1,Jm s⟩])}else none
  | _,_=>none
 | _=>none
def yR(T:List TI)(nv:Nat)(k:TK)(l:List UInt8):Option gx:=
 match k with
 | .slice e=>
  match aU T e with
  | some te=>if te.k= .int .u8∧te.size=1∧l.length≤1000 then some {val:= .vv nv,gg:= .own (.bu true nv e 1 (.lit l.length) [⟨.int .u8,1,.oz (l.map fun b=>(b.toNat:Int))⟩])}else none
  | none=>none
 | _=>none
def qk(a n:E):E:=
 match eA n with
 | some k=>match tI a k with
  | some l=> .oz ((k:Int)::l)
  | none=>qX a n
 | none=>qX a n
def CN(hp:List Ck):SV→Option gx
 | .cC=>some {val:= .str []}
 | .sl b i 1 n _=>
  match findAt hp b,eA i,eA n with
  | some (j,.row _ _ cs),some i,some n=>
   match iP i n cs with
   | some xs=>
    match rowOf xs with
    | some (kl,a)=>if kl=List.replicate n .u8 then some {val:=mkStr (qk a (.lit n)),rd:=[j]}else none
    | none=>none
   | none=>none
  | some (j,.row _ _ [.cD .u8 m a]),some 0,none=>some {val:=mkStr (qk a n),vcs:=[wo n (.lit m)].filter (fun b=>b != .lit true),rd:=[j]}
  | _,_,_=>none
 | .vv v=>
  match dH hp v with
  | some (j,.bu _ _ _ 1 n [⟨.int .u8,1,a⟩])=>some {val:=mkStr (qk a n),rd:=[j]}
  | _=>none
 | .jP v cs s=>
  match eZ hp (.jP v cs s)with
  | some r=>match gD r.p.lo r.aH with
   | some [⟨.int .u8,1,a⟩]=>if r.s=1∧r.s=bT r.aH then some {val:=mkStr (qk a r.p.len),vcs:=r.vcs++dA (.lit 0) r.p.len,rd:=[r.j]}else none
   | _=>none
  | none=>none
 | _=>none
def nj(T:List TI)(hp:List Ck)(src:TypeId)(v:SV):Option gx:=
 match aU T src with
 | some ts=>
  match ts.k with
  | .slice e=>
   match aU T e with
   | some te=>if te.k= .int .u8 then CN hp v else none
   | none=>none
  | _=>none
 | none=>none
def yS(ti:TI)(op:BinOp)(y:Operand)(a:SV):Option gx:=
 match ti.k,y,a with
 | .iface,.const .nilIface,.rQ=>
  match op with
  | .eql=>some {val:= .bool (.lit true)}
  | .neq=>some {val:= .bool (.lit false)}
  | _=>none
 | .iface,.const .nilIface,.Ln .. =>
  match op with
  | .eql=>some {val:= .bool (.lit false)}
  | .neq=>some {val:= .bool (.lit true)}
  | _=>none
 | .iface,.const .nilIface,.F_ c _=>
  match op with
  | .eql=>some {val:= .bool (iO c)}
  | .neq=>some {val:= .bool c}
  | _=>none
 | _,_,_=>none
def xM(look:Nat→Option SV):Option Operand→Option (Option E)
 | none=>some none
 | some o=>match hZ look o with
  | some (.int _ e)=>some (some e)
  | _=>none
def Ck.VI(b:Nat):Ck→Bool
 | .KR b' _ _=>b==b'
 | _=>false
def IP(hp:List Ck):SV→Option gx
 | .ptr b 0=>
  match hp.findIdx? (Ck.VI b)with
  | some j=>match hp[j]? with
   | some (.KR b' l pos)=>
    if b=b' then
     match l[pos]? with
     | some c=>if c.toNat<128 then some {val:= .oJ [.bool (.lit true),.int .i64 (.lit pos),.int .i32 (.lit c.toNat)],rd:=[j],gg:= .set j (.KR b' l (pos+1))}else none
     | none=>some {val:= .oJ [.bool (.lit false)],rd:=[j]}
    else none
   | _=>none
  | none=>none
 | _=>none
def dh(T:List TI)(look:Nat→Option SV)(hp:List Ck)(nb nv:Nat)(o:Oper):Option gx:=
 let ev:=hZ look
 match o.op with
 | .move x | .assign x=>(ev x).map fun v=>{val:=v}
 | .pick c a b=>
  match ev c,ev a,ev b with
  | some (.bool c),some a,some b=>(CJ c a b).map fun v=>{val:=v}
  | _,_,_=>none
 | .alloc t=>(aU T t).bind fun ti=>match ti.k with
  | .HO _ e=>if eo ti.zero [.iK,.cC]then some {val:= .ptr nb 0,gg:= .new (.HO nb t e (.lit 0) (.lit 0))}else none
  | _=>some {val:= .ptr nb 0,gg:= .new (.row nb true ti.zero)}
 | .box _ x=>
  match ev x with
  | some v=>(dO v).map fun cs=>{val:= .ptr nb 0,gg:= .new (.row nb true cs)}
  | none=>none
 | .build t parts=>
  match aU T t,partsOf look parts.toList with
  | some ti,some ps=>
   match ti.k with
   | .struct fs=>if o8 T fs then(jH (fU T fs) ti.zero ps).map fun cs=>{val:= .agg cs}else none
   | .arr _ e=>
    match aU T e with
    | some te=>(jH (jy te.size) ti.zero ps).map fun cs=>{val:= .agg cs}
    | none=>none
   | _=>none
  | _,_=>none
 | .buildSlice t len parts=>
  match aU T t,partsOf look parts.toList with
  | some ti,some ps=>
   match ti.k with
   | .slice e=>
    match aU T e with
    | some te=>if len=0 then(if ps.isEmpty then(gf T te).map fun z=>{val:= .vv nv,gg:= .own (.bu true nv e te.size (.lit 0) z)}else none)else if te.size=0∨1000<len*te.size then none else(jH (jy te.size) (List.replicate len te.zero).flatten ps).map fun cs=>{val:= .sl nb (.lit 0) te.size (.lit len) (.lit len),gg:= .new (.row nb true cs)}
    | none=>none
   | _=>none
  | _,_=>none
 | .load t x=>
  match aU T t,ev x with
  | some ti,some a=>wu hp ti.k.agg ti.size a
  | _,_=>none
 | .store t x y=>
  match aU T t,ev x,ev y with
  | some ti,some a,some v=>xE hp ti.size v a
  | _,_,_=>none
 | .nilCheck x=>
  match ev x with
  | some (.ptr b c)=>some {val:= .ptr b c}
  | some (.oB b i s c)=>some {val:= .oB b i s c}
  | some (.nB e)=>some {val:= .nB e,vcs:=[OU e]}
  | some (.pv v i s c)=>match dH hp v with
   | some (j,.bu _ _ _ _ n _)=>some {val:= .pv v i s c,vcs:=gv i n,rd:=[j]}
   | _=>none
  | some (.fn f cs)=>some {val:= .fn f cs}
  | _=>none
 | .binOp op t x y _=>
  match aU T t,ev x,ev y with
  | some ti,some a,some b=>match yS ti op y a with
   | some r=>some r
   | none=>mh ti op a b
  | _,_,_=>none
 | .unOp op _ x=>
  match op,ev x with
  | .not,some (.bool b)=>some {val:= .bool (iO b)}
  | .xor,some (.int k a)=>some {val:= .int k (tA .aD k (.lit (if sR k then -1 else IntKind.hi k)) a)}
  | .neg,some (.int k a)=>some {val:= .int k (xG k (tz (.lit 0) a)).1,vcs:=(xG k (tz (.lit 0) a)).2}
  | _,_=>none
 | .convert src dst x=>
  match aU T src,aU T dst,ev x with
  | some _,some ti,some (.int _ a)=>
   match ti.k with
   | .int k=>some {val:= .int k (xH k a).1,vcs:=(xH k a).2}
   | _=>none
  | some ts,some ti,some (.str l)=>if ts.k= .str then yR T nv ti.k l else none
  | some ts,some ti,some (.kb s)=>if ts.k= .str then bytesOf T nv ti.k (.kb s)else none
  | some _,some ti,some (.sl b i s n m)=>
   match ti.k with
   | .slice e=>
    match aU T e,findAt hp b with
    | some te,some (j,.row b' true cs)=>if src=dst∧te.k= .int .u8 then some {val:= .sl b i s n m,rd:=[j],gg:= .set j (.row b' false cs)}else none
    | _,_=>none
   | .str=>nj T hp src (.sl b i s n m)
   | _=>none
  | some _,some ti,some (.vv v)=>if ti.k= .str then nj T hp src (.vv v)else none
  | some _,some ti,some (.jP v cs s)=>if ti.k= .str then nj T hp src (.jP v cs s)else none
  | some _,some ti,some .cC=>if ti.k= .str then nj T hp src .cC else none
  | _,_,_=>none
 | .makeInterface t x=>
  match aU T t,ev x with
  | some ti,some (.int k e)=>if ti.k= .int k then some {val:= .Ln t k e}else none
  | _,_=>none
 | .sliceToArrayPointer arr x=>
  match aU T arr,ev x with
  | some ta,some v=>
   match ta.k with
   | .arr n e=>
    match aU T e with
    | some _=>
     if n=0 then none else
     match v with
     | .sl b i s m _=>some {val:=D3 b i s 0,vcs:=dA (.lit n) m}
     | v=>
      match eZ hp v with
      | some r=>some {val:= .pv r.v r.p.lo r.s 0,vcs:=r.vcs++dA (.lit n) r.p.len,rd:=[r.j]}
      | none=>none
    | none=>none
   | _=>none
  | _,_=>none
 | .fieldAddr s x f=>
  match aU T s,ev x with
  | some ts,some a=>
   match ts.k with
   | .struct fs=>
    match fs[f]? with
    | some (t,off)=>
     match aU T t with
     | some ti=>if ti.size=0 then none else
      match a with
      | .ptr b c=>some {val:= .ptr b (c+off)}
      | .oB b i s c=>some {val:= .oB b i s (c+off)}
      | .pv v i s c=>
       match dH hp v with
       | some (j,.bu _ _ _ _ n _)=>some {val:= .pv v i s (c+off),vcs:=gv i n,rd:=[j]}
       | _=>none
      | _=>none
     | none=>none
    | none=>none
   | _=>none
  | _,_=>none
 | .field s x f=>
  match aU T s,ev x with
  | some ts,some (.agg cs)=>
   match ts.k with
   | .struct fs=>
    match fs[f]? with
    | some (t,off)=>
     match aU T t with
     | some ti=>
      match iP off ti.size cs with
      | some x=>(hJ ti.k.agg x).map fun v=>{val:=v}
      | none=>none
     | none=>none
    | none=>none
   | _=>none
  | _,_=>none
 | .indexAddr t x y=>
  match aU T t,ev x,ev y with
  | some tt,some a,some (.int _ j)=>
   match tt.k with
   | .slice e=>
    match aU T e with
    | some te=>
     match a with
     | .sl b i s n _=>if te.size=s then some {val:=D3 b (dp i j) s 0,vcs:=nI i++gv j n}else none
     | a=>
      match eZ hp a with
      | some r=>if te.size=r.s then some {val:= .pv r.v (dp r.p.lo j) r.s 0,vcs:=r.vcs++gv j r.p.len,rd:=[r.j]}else none
      | none=>none
    | none=>none
   | .arr n e=>
    match aU T e with
    | some te=>
     match a with
     | .ptr b c=>some {val:=D3 b j te.size c,vcs:=gv j (.lit n)}
     | _=>none
    | none=>none
   | _=>none
  | _,_,_=>none
 | .index t x y=>
  match aU T t,ev x,ev y with
  | some tt,some (.agg cs),some (.int _ j)=>
   match tt.k with
   | .arr n e=>
    match aU T e with
    | some te=>
     match eA j with
     | some l=>if l<n then(match iP (l*te.size) te.size cs with
      | some x=>(hJ te.k.agg x).map fun v=>{val:=v}
      | none=>none)else none
     | none=>
      match cs with
      | [.cD k m a]=>if m=n∧te.size=1∧te.k.agg=false then some {val:= .int k (fP a j),vcs:=gv j (.lit n)}else none
      | _=>none
    | none=>none
   | _=>none
  | some tt,some v,some (.int _ j)=>if tt.k= .str then Hm v j else none
  | _,_,_=>none
 | .extract x i=>
  match ev x with
  | some (.oJ vs)=>(vs[i]?).map fun v=>{val:=v}
  | _=>none
 | .makeFunc fn first caps=>
  match fn,first.toList with
  | .func f,[]=>(iS (caps.toList.map ev)).map fun cs=>{val:= .fn f cs}
  | _,_=>none
 | .call c=>
  match c.callee,c.args.toList,c.argTypes.toList with
  | .builtin .len,[x],[t]=>
   match aU T t,ev x with
   | some tt,some v=>Hn hp tt.k v
   | _,_=>none
  | .builtin .cap,[x],[t]=>
   match aU T t,ev x with
   | some tt,some .cC=>match tt.k with
    | .slice _=>some {val:= .int .i64 (.lit 0)}
    | _=>none
   | _,_=>none
  | .builtin .max,[x,y],_=>
   match ev x,ev y with
   | some (.int k a),some (.int _ b)=>some {val:= .int k (tA .imax k a b)}
   | _,_=>none
  | .builtin .min,[x,y],_=>
   match ev x,ev y with
   | some (.int k a),some (.int _ b)=>some {val:= .int k (tA .tu k a b)}
   | _,_=>none
  | .builtin .append,[x,y],[ts,TH]=>
   match aU T ts,ev x,ev y with
   | some tt,some x,some y=>uo T hp nv tt ts TH x y
   | _,_,_=>none
  | .builtin .clear,[x],[t]=>
   match aU T t,ev x with
   | some tt,some v=>yQ T hp tt.k v
   | _,_=>none
  | .builtin .copy,[x,y],[ts,TH]=>
   match aU T ts,ev x,ev y with
   | some tt,some x,some y=>if ts=TH then CL T hp tt.k x y else none
   | _,_,_=>none
  | _,_,_=>none
 | .slice t x lo hi mx=>
  match aU T t,ev x,xM look lo,xM look hi,xM look mx with
  | some tt,some v,some l,some h,some m=>if tt.k= .str then(if m.isSome then none else yP v l h)else xP T hp tt.k v l h m
  | _,_,_,_,_=>none
 | .makeMap t none=>ri T nb t
 | .lookup t x k comma=>
  match ev x,ev k with
  | some x,some k=>tL T hp t x k comma
  | _,_=>none
 | .mapUpdate t x k v=>
  match ev x,ev k,ev v with
  | some x,some k,some v=>p7 T hp t x k v
  | _,_,_=>none
 | .insert t x k v=>
  match ev x,ev k,ev v with
  | some x,some k,some v=>p7 T hp t x k v
  | _,_,_=>none
 | .makeSlice t n c=>
  match aU T t,ev n,ev c with
  | some tt,some (.int _ n),some (.int _ c)=>CM T nv tt.k n c
  | _,_,_=>none
 | .range t x=>
  match aU T t,ev x with
  | some ti,some (.str l)=>if ti.k= .str then some {val:= .ptr nb 0,gg:= .new (.KR nb l 0)}else none
  | _,_=>none
 | .next x true=>(ev x).bind (IP hp)
 | _=>none
end Go.RX
