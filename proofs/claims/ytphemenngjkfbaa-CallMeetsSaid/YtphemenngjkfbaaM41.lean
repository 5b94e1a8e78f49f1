/- What the executor is told of the loops and calls of SHA-256. -/
import Derived.Test.YtphemenngjkfbaaM23
open List renaming append → adH, range → aec
namespace Go.RX.Sh
open Go.RX
def cW(a:E):List bV:=[⟨.int .u32,1,a⟩]
def cB(a:E):List bV:=[⟨.int .u8,1,a⟩]
def cL(a:E):List bV:=[⟨.int .u64,1,a⟩]
def IX(b h k:Nat):Ck:= .row b true ([.vv h,.vv k]++[4,2,13,22,6,11,25,7,18,3,17,19,10].map fun n:Int=> .int .i64 (.lit n))
def IY:List Ck:=[IX 0 0 1,.cc true 0 107 1 (.lit 8) (cW (.aw 0)),.cc true 1 107 1 (.lit 64) (cW (.aw 1)),.cc true 2 5 1 (.var 0) (cB (.aw 2))]
def ints(k:IntKind)(i:Nat):Nat→List SV
 | 0=>[]
 | n+1=> .int k (.var i)::ints k (i+1) n
def hpW(c:cz)(h:List Ck):List Ck:=
 match h with
 | [m,hh,k,r,.cc md v t s n _]=>[m,hh,k,r,.cc md v t s n (cW (.aw c.a))]
 | h=>h
def hpX(c:cz)(h:List Ck):List Ck:=
 match h with
 | [m,hh,k,r,w,.row b wr _]=>[m,hh,k,r,w,.row b wr (ints .u32 c.i 8)]
 | h=>h
def hpH(c:cz)(h:List Ck):List Ck:=
 match h with
 | m:: .cc md v t s n _::k::r::w:: .row b wr _::q=>m:: .cc md v t s n (cW (.aw c.a))::k::r::w:: .row b wr [.aX .u32 8 (.aw (c.a+1))]::q
 | h=>h
def xI(ck:Ck)(h:List Ck):List Ck:=
 match h.reverse.findIdx? (fun | .cc .. =>true | _=>false)with
 | some i=>(h.reverse.set i ck).reverse
 | none=>[]
def Cn(cs:List SV):List Ck→List Ck
 | []=>[]
 | .row b w x::r=>if SV.pK x=8 then .row b w cs::r else .row b w x::Cn cs r
 | c::r=>c::Cn cs r
def loops(f id:Nat):Option mP:=
 match f,id with
 | 130,0=>some {inc:={i:=2},aV:=fun c=>[(3,.int .u64 (.var c.i)),(4,.int .i64 (.var (c.i+1)))],hp:=fun _ h=>h}
 | 127,0=>some {inc:={i:=1,a:=1},aV:=fun c=>[(25,.int .i64 (.var c.i))],hp:=hpW}
 | 127,2=>some {inc:={i:=1,a:=1},aV:=fun c=>[(6,.int .i64 (.var c.i))],hp:=hpW}
 | 127,4=>some {inc:={i:=9},aV:=fun c=>[(110,.int .i64 (.var (c.i+8)))],hp:=hpX}
 | 113,2=>some {inc:={i:=9},aV:=fun c=>[(11,.int .i64 (.var (c.i+8)))],hp:=fun c h=>Cn (ints .u64 c.i 8) h}
 | 113,4=>some {pre:=[.slot 12 70],inc:={i:=1,v:=1,a:=1},aV:=fun c=>[(13,.int .i64 (.var c.i)),(12,.vv c.v)],hp:=fun c h=>xI (.cc true c.v 70 1 (.var c.i) (cL (.aw c.a))) h}
 | 113,14=>some {pre:=[.slot 20 5],inc:={i:=2,v:=1,a:=2},aV:=fun c=>[(21,.int .i64 (.var c.i)),(20,.vv c.v)],hp:=fun c h=>Cn [.aX .u64 8 (.aw (c.a+1))] (xI (.cc true c.v 5 1 (.var (c.i+1)) (cB (.aw c.a))) h)}
 | 113,8=>some {inc:={i:=1,v:=1,a:=1},aV:=fun c=>[(16,.int .i64 (.var c.i)),(12,.vv c.v)],hp:=fun c h=>xI (.cc true c.v 70 1 (.var c.i) (cL (.aw c.a))) h}
 | 113,10=>some {inc:={i:=1,v:=1,a:=1},aV:=fun c=>[(18,.int .i64 (.var c.i)),(17,.vv c.v)],hp:=fun c h=>xI (.cc true c.v 70 1 (.lit 8) (cL (.aw c.a))) h}
 | 127,6=>some {inc:={i:=1,a:=2},aV:=fun c=>[(189,.int .i64 (.var c.i))],hp:=hpH}
 | _,_=>none
def E8(az:List SV)(hp:List Ck):List Nat:=
 match az with
 | [.ptr b 0,.iC v _ _]=>
  match findAt hp b,dN hp v with
  | some (j,.row _ _ (.vv h:: .vv k::_)),some (r,_)=>
   match dN hp h,dN hp k with
   | some (x,_),some (y,_)=>[j,x,y,r]
   | _,_=>[]
  | _,_=>[]
 | _=>[]
def E9(c:cz)(h:List Ck):List Ck:=
 match h with
 | [m,.cc md v t s n _,k,r]=>[m,.cc md v t s n (cW (.aw c.a)),k,r]
 | h=>h
def EO(az:List SV)(hp:List Ck):List Nat:=
 match az with
 | .vv v::_=>match dN hp v with
  | some (j,_)=>[j]
  | none=>[]
 | _=>[]
def rowsOf(hp:List Ck):List SV→List Nat
 | []=>[]
 | .sl b _ _ _ _::r=>match findAt hp b with
  | some (j,_)=>j::rowsOf hp r
  | none=>[]
 | _::_=>[]
def B2(az:List SV)(hp:List Ck):List Nat:=
 match az with
 | [.sl b _ _ _ _]=>match findAt hp b with
  | some (j,.row _ _ cs)=>rowsOf hp cs++[j]
  | _=>[]
 | _=>[]
def RE:List Ck:=[
 .row 0 false ([104,97,105,108,101,114,32,109,101,100,105,97].map fun n:Int=> .int .u8 (.lit n)),
 .row 1 true [.aX .u8 16 (.aw 0)],.row 2 true [.aX .u8 32 (.aw 1)],.row 3 true [.aX .u8 32 (.aw 2)],
 .row 4 true [.int .u8 (.var 0),.int .u8 (.var 1),.int .u8 (.var 2),.int .u8 (.var 3)],
 .row 5 true [.sl 0 (.lit 0) 1 (.lit 12) (.lit 12),.sl 1 (.lit 0) 1 (.lit 16) (.lit 16),.sl 2 (.lit 0) 1 (.lit 32) (.lit 32),.sl 3 (.lit 0) 1 (.lit 32) (.lit 32),.sl 4 (.lit 0) 1 (.lit 4) (.lit 4)]]
def four:bh:={use:=fun _ _=>[],inc:={i:=1},val:=fun c=> .int .u64 (.var c.i),new:=fun _ _=>[]}
def VU:List SV→SV
 | [.int _ (.lit n)]=> .int .u64 (.lit (2^n.toNat))
 | _=> .undef
def Br:bh:={use:=fun _ _=>[],val:=fun _=> .undef,new:=fun _ _=>[],valOf:=some fun az _=>VU az}
def calls(f s:Nat):Option bh:=
 match f,s with
 | 112,46=>some {use:=E8,inc:={a:=1},val:=fun _=> .j7 [],new:=E9}
 | 112,106=>some {use:=E8,inc:={a:=1},val:=fun _=> .j7 [],new:=E9}
 | 78,3=>some {use:=fun _ _=>[],inc:={b:=1,v:=2,a:=2},val:=fun c=> .ptr c.b 0,new:=fun c _=>[.cc true c.v 107 1 (.lit 8) (cW (.aw c.a)),.cc true (c.v+1) 107 1 (.lit 64) (cW (.aw (c.a+1))),IX c.b c.v (c.v+1)]}
 | 44,26=>some {use:=B2,inc:={a:=1},val:=fun c=> .agg [.aX .u8 32 (.aw c.a)],new:=fun _ h=>h}
 | 113,26=>some {use:=fun _ _=>[],inc:={v:=1,a:=1},val:=fun c=> .vv c.v,new:=fun c _=>[.cc true c.v 70 1 (.lit 80) (cL (.aw c.a))]}
 | 113,97=>some four
 | 113,110=>some four
 | 113,47=>some {use:=EO,inc:={v:=1,a:=1},val:=fun c=> .vv c.v,new:=fun c h=>h++[.cc true c.v 5 1 (.lit 128) (cB (.aw c.a))]}
 | 80,7=>some {use:=EO,inc:={v:=1,a:=1},val:=fun c=> .vv c.v,new:=fun c h=>h++[.cc true c.v 5 1 (.lit 32) (cB (.aw c.a))]}
 | 113,29=>some Br
 | 113,179=>some Br
 | 141,16=>some Br
 | 143,9=>some Br
 | 143,15=>some Br
 | 132,10=>some Br
 | 134,21=>some four
 | 134,51=>some four
 | 113,142=>some {use:=EO,inc:={v:=1,a:=1},val:=fun c=> .vv c.v,new:=fun c _=>[.cc true c.v 70 1 (.lit 8) (cL (.aw c.a))]}
 | _,_=>none
end Go.RX.Sh

namespace Go.RX.Md
open Go.RX
def mQ:bh:={use:=fun _ _=>[],inc:={a:=1},val:=fun c=> .agg [.aX .u8 32 (.aw c.a)],new:=fun _ _=>[]}
def calls(f s:Nat):Option bh:=
 match f,s with
 | 9,16=>some mQ
 | 9,22=>some mQ
 | 9,30=>some mQ
 | 9,36=>some mQ
 | 88,60=>some mQ
 | 97,30=>some mQ
 | 46,183=>some mQ
 | f,s=>Sh.calls f s
open Go.RX Go.Proofs
noncomputable def cx:Ctx:={T:=TT,FT:=FT,calls:=calls}
open Go.RX Go.Proofs
set_option maxRecDepth 100000
noncomputable def E_:F:=cC cx 46 ([]) ([]) ({b:=0,v:=0,i:=0,a:=0,bo:=0,p:=0,r:=0}) Try.f46
def Fa(P:Program)(ao:Value→List HP→Prop):Prop:=
 ∀_:Nat,∀_:Nat,∀_:Nat,∀_:Nat,∀_:Nat,∀_:Nat,∀_:Nat,∀_:Nat,∀_:Nat,∀_:Nat,∀_:Nat,∀_:Nat,∀_:Nat,∀_:Nat,∀_:Nat,∀_:V1,∀_:Nat,∀_:V1,∀_:Nat,∀_:Nat,∀_:Nat,∀_:Nat,∀_:V1,∀_:Nat,∀_:Nat,∀_:Nat,∀_:Nat,∀(_ _:Nat) (_:Loop),∀_:Nat,∀_:Nat,∀_:Nat,∀_:Nat,∀_:V1,∀_:Nat,∀_:Nat,∀_:Nat,∀_:Nat,∀_:V1,∀_:Nat,∀_:Nat,∀_:Nat,∀_:Nat,∀_:Nat,∀_:Nat,∀_:Nat,∀_:Nat,∀_:Nat,∀_:Nat,∀_:Nat,∃post,aq P 44 [.agg (.int .u8 5::(adH (al .u8 15 (fun _=>0)) ([]))).toArray,.agg (.int .u8 1::(adH (al .u8 31 (fun _=>0)) ([]))).toArray,.agg (.int .u8 2::(adH (al .u8 31 (fun _=>0)) ([]))).toArray,.agg #[.int .u8 0,.int .u8 0],.agg #[.int .u8 1,.int .u8 1]] [] post∧
 ∀x hs,post x hs→∃A0:(Nat→Int),x= .agg (adH (al .u8 32 A0) ([])).toArray∧hs=[]∧
 ∀_:Nat,∀_:Nat,∀_:Nat,∀_:V1,∀_:Nat,∀_:Nat,∀_:Nat,∀_:Nat,∀_:Nat,∀(_ _:Nat) (_:Loop),∀_:Nat,∀_:Nat,∀_:Nat,∀_:Nat,∀_:V1,∀_:Nat,∀_:Nat,∀_:Nat,∀_:V1,∀_:Nat,∀_:Nat,∀_:Nat,∀_:Nat,∀_:Nat,∀_:Nat,∀_:Nat,∀_:Nat,∀_:Nat,∀_:Nat,∀_:Nat,∀_:Nat,∀_:Nat,∀_:Nat,∀_:Nat,∀_:Nat,∀_:V1,∀_:Nat,∀_:Nat,∀_:Nat,∀_:Nat,∀_:Nat,∀_:Nat,∀_:Nat,∀_:Nat,∀_:Nat,∃post,aq P 111 [] [] post∧
 ∀x hs,post x hs→∃Ty:Nat,∃v9:V1,∃v10:V1,∃A1:(Nat→Int),∃A2:(Nat→Int),x= .pointer (some ⟨Ty,0,none⟩)∧hs=[aB true 107 1 v9.v 8 (aH 8 [au .u32 1 A1]),aB true 107 1 v10.v 64 (aH 64 [au .u32 1 A2]),ak Ty true ([v9.v,v10.v,.int .i64 4,.int .i64 2,.int .i64 13,.int .i64 22,.int .i64 6,.int .i64 11,.int .i64 25,.int .i64 7,.int .i64 18,.int .i64 3,.int .i64 17,.int .i64 19,.int .i64 10])]∧
 ∀_:V1,∀_:Nat,∀_:V1,∀_:Nat,∀_:V1,∀_:Nat,∀_:V1,∀_:Nat,∀_:V1,∀_:Nat,∀_:V1,∀_:Nat,∀_:V1,∀_:Nat,∀_:V1,∀_:Nat,∀_:V1,∀_:Nat,∀_:V1,∀_:Nat,∀_:V1,∀_:Nat,∀_:V1,∀_:Nat,∀_:V1,∀_:Nat,∀_:V1,∀_:Nat,∀_:V1,∀_:Nat,∀_:V1,∀_:Nat,∀_:V1,∀_:Nat,∀_:V1,∀_:Nat,∀_:V1,∀_:Nat,∀_:V1,∀_:Nat,∀_:V1,∀_:Nat,∀_:V1,∀_:Nat,∀_:V1,∀_:Nat,∀_:V1,∀_:Nat,∀_:V1,∀_:V1,∀Zq:V1,∃post,aq P 127 [.pointer (some ⟨Ty,0,none⟩),(bJ 1 Zq.v 0 64 none)] [ak Ty true ([v9.v,v10.v,.int .i64 4,.int .i64 2,.int .i64 13,.int .i64 22,.int .i64 6,.int .i64 11,.int .i64 25,.int .i64 7,.int .i64 18,.int .i64 3,.int .i64 17,.int .i64 19,.int .i64 10]),aB true 107 1 v9.v 8 (aH 8 [au .u32 1 A1]),aB true 107 1 v10.v 64 (aH 64 [au .u32 1 A2]),aB true 5 1 Zq.v 64 (aH 64 [au .u8 1 (aW (aj (aj (aj (aj (aj (aj (aj (aj (aj (aj (aj (aj (aj (aj (aj (aj (aj (aj (aj (aj (aj (aj (aj (aW A0 32 1 (aj (fun _=>0) 0 128)) 33 0) 34 0) 35 0) 36 0) 37 0) 38 0) 39 0) 40 0) 41 0) 42 0) 43 0) 44 0) 45 0) 46 0) 47 0) 48 0) 49 0) 50 0) 51 0) 52 0) 53 0) 54 0) 55 0) 56 8 (aj (aj (aj (aj (aj (aj (aj (aj (fun _=>0) 7 0) 6 1) 5 0) 4 0) 3 0) 2 0) 1 0) 0 0))])] post∧
 ∀x hs,post x hs→∃A3:(Nat→Int),x= .tuple #[]∧hs=[ak Ty true ([v9.v,v10.v,.int .i64 4,.int .i64 2,.int .i64 13,.int .i64 22,.int .i64 6,.int .i64 11,.int .i64 25,.int .i64 7,.int .i64 18,.int .i64 3,.int .i64 17,.int .i64 19,.int .i64 10]),aB true 107 1 v9.v 8 (aH 8 [au .u32 1 A3]),aB true 107 1 v10.v 64 (aH 64 [au .u32 1 A2]),aB true 5 1 Zq.v 64 (aH 64 [au .u8 1 (aW (aj (aj (aj (aj (aj (aj (aj (aj (aj (aj (aj (aj (aj (aj (aj (aj (aj (aj (aj (aj (aj (aj (aj (aW A0 32 1 (aj (fun _=>0) 0 128)) 33 0) 34 0) 35 0) 36 0) 37 0) 38 0) 39 0) 40 0) 41 0) 42 0) 43 0) 44 0) 45 0) 46 0) 47 0) 48 0) 49 0) 50 0) 51 0) 52 0) 53 0) 54 0) 55 0) 56 8 (aj (aj (aj (aj (aj (aj (aj (aj (fun _=>0) 7 0) 6 1) 5 0) 4 0) 3 0) 2 0) 1 0) 0 0))])]∧
 ∀_:Nat,∀_:V1,∀_:Nat,∀_:V1,∀_:Nat,∀_:V1,∀_:Nat,∀_:V1,∀_:Nat,∀_:V1,∀_:Nat,∀_:V1,∀_:Nat,∀_:V1,∀_:Nat,∀_:V1,∀_:Nat,∀_:V1,∀_:Nat,∀_:V1,∀_:Nat,∀_:V1,∀_:Nat,∀_:V1,∀_:Nat,∀_:V1,∀_:Nat,∀_:V1,∀_:Nat,∀_:V1,∀_:Nat,∀_:V1,∀_:Nat,∀_:V1,∀_:Nat,∀_:V1,∀_:Nat,∀_:V1,∀_:Nat,∀_:V1,∀_:Nat,∀_:V1,∀_:Nat,∀_:V1,∀_:Nat,∀_:V1,∀_:Nat,∀_:V1,∀_:Nat,∀_:V1,∀_:Nat,∀_:V1,∀_:Nat,∀_:V1,∀_:Nat,∀_:V1,∀_:Nat,∀_:V1,∀_:Nat,∀_:V1,∀_:Nat,∀_:V1,∀_:Nat,∀_:V1,∀_:Nat,∀_:Nat,∀_:V1,∀_:Nat,∀_:Nat,∀_:Nat,∃post,aq P 45 [.agg (.int .u8 5::(adH (al .u8 15 (fun _=>0)) ([]))).toArray,.agg (.int .u8 1::(adH (al .u8 31 (fun _=>0)) ([]))).toArray,.agg (.int .u8 2::(adH (al .u8 31 (fun _=>0)) ([]))).toArray,.agg #[.int .u8 0,.int .u8 0],.agg #[.int .u8 1,.int .u8 1]] [] post∧
 ∀x hs,post x hs→∃A4:(Nat→Int),x= .agg (adH (al .u8 32 A4) ([])).toArray∧hs=[]∧
 ao (.bool ((aec 32).all fun j=>A0 j==A4 j)) []
theorem N5(P:Program)(ao:Value→List HP→Prop)(L:Nat→LC):VC P (fun v _=>ao v []) E_ {iv:=[],av:=[],bo:=[],bv:=[],vv:=[]} L=Fa P ao:=by kernel_rfl
theorem K4:cC cx 46 ([]) ([]) ({b:=0,v:=0,i:=0,a:=0,bo:=0,p:=0,r:=0}) Try.f46=E_:=rfl
end Go.RX.Md

namespace Go.RX.Sh
open Go.RX Go.Proofs
noncomputable def cx:Ctx:={T:=TT,FT:=FT,loops:=loops,calls:=calls}
end Go.RX.Sh
