/- What the executor is told of SpecOne itself. -/
import Derived.Test.YtphemenngjkfbaaM38
open Go.IntKind renaming wrap → ae
open Go.Proofs.Try renaming prog → agQ
open Int renaming toNat → ag
open List renaming append → agw, getD_cons_succ → agY, getD_cons_zero → ah, mem_cons_of_mem → agF, mem_cons_self → agA, range → ag5
namespace Go.RX.Sl
open Go.RX Go.RX.So
def vC:Ck→Bool
 | .abs _=>true
 | _=>false
def PZ(_:List SV)(hp:List Ck):List Nat:=
 match hp.findIdx? vC with
 | some i=>[i]
 | none=>[]
def calls(f s:Nat):Option bp:=
 match f,s with
 | 7,23=>some {use:=fun _ _=>[],val:=fun _=> .bool (.lit true),new:=fun _ _=>[]}
 | 7,29=>some {use:=fun _ _=>[],inc:={b:=1,p:=1},val:=fun c=> .ptr c.b 0,new:=fun c _=>[.abs c.p]}
 | 7,41=>some {use:=PZ,inc:={i:=1,p:=1},val:=fun c=> .int .i64 (.var c.i),new:=fun c _=>[.abs c.p]}
 | 7,55=>some {use:=PZ,inc:={i:=2,bo:=1},val:=fun c=> .lp [.agg [u8 c.i,u8 (c.i+1)],.bool (.var c.bo)],new:=fun _ h=>h}
 | _,_=>none
def K5(a:Nat):List cb→List cb
 | []=>[]
 | k::r=>{k with a:= .aw a}::K5 (a+1) r
def hpL(c:cF)(h:List Ck):List Ck:=
 match h with
 | [e,d,r,.abs _,.map b1 l1 a1 v1 z1 _ c1,.map b2 l2 a2 v2 z2 _ c2,.map b3 l3 a3 v3 z3 _ c3]=>
  [e,d,r,.abs c.p,.map b1 l1 a1 v1 z1 (.aw c.a) (K5 (c.a+1) c1),.map b2 l2 a2 v2 z2 (.aw (c.a+3)) (K5 (c.a+4) c2),.map b3 l3 a3 v3 z3 (.aw (c.a+5)) (K5 (c.a+6) c3)]
 | h=>h
def K6(a:Nat):List Ck→List Ck
 | []=>[]
 | .map b l ka va z _ []::r=> .map b l ka va z (.aw a) []::r
 | k::r=>k::K6 a r
def loops(f id:Nat):Option jg:=
 match f,id with
 | 7,0=>some {inc:={i:=1,a:=8,p:=1},slots:=fun c=>[(35,.int .i64 (.var c.i))],hp:=hpL}
 | 7,2=>some {pre:=[.marks],back:=[.mark],ds:=fun c _=>[.many c.b],inc:={i:=1,b:=1},slots:=fun c=>[(124,.int .i64 (.var c.i))],hp:=fun c h=>h.map fun | .qA _=> .qA c.b | k=>k}
 | 76,0=>some {inc:={i:=1,a:=1},slots:=fun c=>[(27,.int .i64 (.var c.i))],hp:=fun c h=>K6 c.a h}
 | _,_=>none
def AN:Ck→Bool
 | .map _ [.u8,.u8] _ _ [.dR] _ _=>true
 | _=>false
def OO(st:St):Option ct:=
 match st.hp.findIdx? vC,look st.fr 5 with
 | some j,some (.ptr b 0)=>
  let c:=st.aS
  some {use:=[j],inc:={b:=2,a:=5,i:=1,p:=1},new:=[.abs c.p,.row b true [.a_ .u8 8 (.aw c.a),.mp c.b,.mp (c.b+1),.int .u64 (.var c.i)],.map c.b oP true false [.dR] (.aw (c.a+1)) [⟨.ptr,1,.aw (c.a+2)⟩],.map (c.b+1) [.u8,.u8] true false [.dR] (.aw (c.a+3)) [⟨.ptr,1,.aw (c.a+4)⟩]]}
 | _,_=>none
def OP(st:St):Option ct:=
 match st.hp.findIdx? vC,st.hp.findIdx? AN,look st.fr 131 with
 | some j,some m,some (.agg cs)=>
  match st.hp[m]?,rowOf cs with
  | some (.map b kl ka va z has [⟨ck,w,p⟩]),some (_,a)=>
   let key:=Rj 2 a
   let cond:=BE.nz (.gW has key)
   let c:=st.aS
   if st.known.contains cond then
    some {use:=[j,m],inc:={b:=2,v:=1,a:=9,i:=8,p:=1},new:=[.abs c.p,.map b kl ka va z (.bP has key (.lit 1)) [⟨ck,w,.bP p key (.rT c.b)⟩],.row c.b true [u8 c.i,.a_ .u8 16 (.aw c.a),.bool (.nz (.var (c.i+1))),u8 (c.i+2),u8 (c.i+3),u8 (c.i+4),.int .u64 (.var (c.i+5)),.int .u64 (.var (c.i+6)),.mp (c.b+1),.vv c.v],.map (c.b+1) oP true true [] (.aw (c.a+1)) [],.cy true c.v 85 22 (.var (c.i+7)) (jX (c.a+2))]}
   else if st.known.contains (iT cond)then
    some {use:=[m],new:=[.map b kl ka va z (.bP has key (.lit 0)) [⟨ck,w,.bP p key (.lit 0)⟩]]}
   else some {split:=some cond}
  | _,_=>none
 | _,_,_=>none
def S8:Ck→Bool
 | .cy true _ 85 _ _ _=>true
 | _=>false
def YW(st:St):Option ct:=
 match st.hp.findIdx? vC,st.hp.findIdx? AN with
 | some j,some m=>
  match st.hp[m]? with
  | some (.map b kl ka va z (.bP has _ _) [⟨ck,w,.bP p _ _⟩])=>
   match st.hp.findIdx? S8 with
   | some s=>some {use:=[j,m,s - 2,s - 1,s],new:=[.abs 2,.map b kl ka va z has [⟨ck,w,p⟩]]}
   | none=>some {use:=[m],new:=[.map b kl ka va z has [⟨ck,w,p⟩]]}
  | _=>none
 | _,_=>none
def jq(f r:Nat):Option (St→Option ct):=
 match f,r with
 | 7,27=>some OO
 | 7,31=>some OP
 | 7,37=>some YW
 | _,_=>none
def w_:List cb:=[⟨.int .u8,1,.aw 0⟩,⟨.int .u8,1,.aw 1⟩,⟨.int .u8,1,.aw 2⟩,⟨.int .u64,1,.aw 3⟩,⟨.int .u8,16,.aw 4⟩,⟨.int .u8,1,.aw 5⟩,⟨.int .u8,1,.aw 6⟩,⟨.int .u8,1,.aw 7⟩,⟨.int .u8,32,.aw 8⟩,⟨.int .u8,1,.aw 9⟩]
end Go.RX.Sl

namespace Go.RX.Sn
open Go.RX Go.RX.So Go.RX.Sl
def T9(c:cF)(h:List Ck):List Ck:=h.map fun
 | .map b [.u8,.u8] ka va z _ [⟨k,w,_⟩]=> .map b [.u8,.u8] ka va z (.aw c.a) [⟨k,w,.aw (c.a+1)⟩]
 | .abs _=> .abs c.p
 | k=>k
def loops(f id:Nat):Option jg:=
 match f,id with
 | 35,0=>some {inc:={i:=1,a:=2,p:=1},slots:=fun c=>[(13,.int .i64 (.var c.i))],hp:=T9}
 | 35,2=>some {inc:={i:=1,a:=2,p:=1},slots:=fun c=>[(6,.int .u8 (.var c.i))],hp:=T9}
 | _,_=>none
def YX(st:St):Option ct:=some {inc:={p:=1},new:=[.abs st.aS.p]}
def more(st:St):Option ct:=
 match st.hp.findIdx? vC with
 | some j=>some {use:=[j,st.hp.length - 1,st.hp.length - 2],inc:={p:=1},new:=[.abs st.aS.p]}
 | none=>none
def jq(f r:Nat):Option (St→Option ct):=
 match f,r with
 | 35,2=>some YX
 | 35,8=>some more
 | _,_=>none
def newArgs:List SV:=[.agg [.a_ .u8 8 (.aw 0)]]
end Go.RX.Sn

namespace Go.RX.Sl
open Go.RX Go.Proofs
noncomputable def cx:Ctx:={T:=TT,FT:=FT,loops:=Sl.loops,calls:=Sl.calls,jq:=Sl.jq}
end Go.RX.Sl
namespace Go.RX.Sn
open Go.RX Go.Proofs
noncomputable def cx:Ctx:={T:=TT,FT:=FT,loops:=Sn.loops,jq:=Sn.jq}
open Go.RX Go.Proofs
set_option maxRecDepth 100000
def rB(_:Program)(aq:Value→List HP→Prop)(A0:Nat→Int):Prop:=
 ∀b0:Nat,∀b1:Nat,∀b2:Nat,∀b3:Nat,∃P0:Ext→Prop,(∀(w:World) (Fs:List HP),aU ([]++Fs) w→∃p0:HP,aU ([p0]++Fs) w∧P0 ⟨[],[],[],[],[],[p0],[]⟩)∧
 (∀p0:HP,P0 ⟨[],[],[],[],[],[p0],[]⟩→
 ∃(fY:Ext→Prop) (jM:Ext→Nat),(∃x0:Int,∃A1:(Nat→Int),∃A2:(Nat→Int),∃p1:HP,x0=0∧(A1=(fun _=>0))∧(A2=(fun _=>0))∧p1=p0∧fY ⟨[],[],[x0],[A1,A2],[],[p1],[]⟩)∧
 ∀x0:Int,∀A1:(Nat→Int),∀A2:(Nat→Int),∀p1:HP,fY ⟨[],[],[x0],[A1,A2],[],[p1],[]⟩→
 aK (x0<8) (
 aE (0≤x0) (
 ∃(Js:Ext→Prop) (P3:Ext→Nat),(∃x1:Int,∃A3:(Nat→Int),∃A4:(Nat→Int),∃p2:HP,x1=0∧(A3=A1)∧(A4=A2)∧p2=p1∧Js ⟨[],[],[x1],[A3,A4],[],[p2],[]⟩)∧
 ∀x1:Int,∀A3:(Nat→Int),∀A4:(Nat→Int),∀p2:HP,Js ⟨[],[],[x1],[A3,A4],[],[p2],[]⟩→
 aK ((x1<(A0 (ag x0)))∧((A0 (ag x0))≤4)) (
 ∀b4:Nat,∀b5:Nat,∃Ut:Ext→Prop,(∀(w:World) (Fs:List HP),aU ([p2,Vw b5 0 (fun _=>0) false 0 0 0 0 0 b4 (.slice none 0 0),Jw b4 (fun _=>0)]++Fs) w→∃p3:HP,aU ([p3]++Fs) w∧Ut ⟨[],[],[],[],[],[p3],[]⟩)∧
 (∀p3:HP,Ut ⟨[],[],[],[],[],[p3],[]⟩→
 ∃V4:Int,∃V5:(Nat→Int),∃V6:(Nat→Int),∃p2':HP,V4=(ae .u8 (x1+1))∧(V5=(aj A3 (kD (ae .u8 x0) x1) 1))∧(V6=(aj A4 (kD (ae .u8 x0) x1) ((b5:Nat)+1:Int)))∧p2'=p3∧Js ⟨[],[],[V4],[V5,V6],[],[p2'],[]⟩∧P3 ⟨[],[],[V4],[V5,V6],[],[p2'],[]⟩<P3 ⟨[],[],[x1],[A3,A4],[],[p2],[]⟩)) (
 aE ((-9223372036854775808)≤(x0+1)) (
 aE ((x0+1)≤9223372036854775807) (
 ∃x0':Int,∃A1':(Nat→Int),∃A2':(Nat→Int),∃p1':HP,x0'=(x0+1)∧(A1'=A3)∧(A2'=A4)∧p1'=p2∧fY ⟨[],[],[x0'],[A1',A2'],[],[p1'],[]⟩∧jM ⟨[],[],[x0'],[A1',A2'],[],[p1'],[]⟩<jM ⟨[],[],[x0],[A1,A2],[],[p1],[]⟩))))) (
 aq (.pointer (some ⟨b3,0,none⟩)) [ao b0 true (agw (ak .u8 8 A0) ([])),Kw b1 (fun _=>0) (fun _=>0),Gw b2 A1 A2,Yw b3 A0 b1 b2 0,p1]))
theorem Jh(P:Program)(aq:Value→List HP→Prop)(A0:Nat→Int)(L:Nat→LC):VC P aq (eE cx 35 newArgs [] {a:=1} Try.f35) {iv:=[],av:=[A0],bo:=[],bv:=[],vv:=[]} L=rB P aq A0:=by kernel_rfl
end Go.RX.Sn

namespace Go.RX.Ed
open Go.RX Go.Proofs Go.Cp Go.RX.Cs Go.RX.Cy Go.RX.Eb
open Go.RX.So (DE CE qE oQ iO dE wv rA aK.mk aE.mk xj YI)
theorem E1{x:Int}(h0:0≤x)(h1:x<256):ae .u8 x=x:=by
 simp [ae,IntKind.signed,IntKind.bits];omega
def Made(A0:Nat→Int)(i j:Int)(H P:Nat→Int)(p:HP):Prop:=
 ∃ds:List DE,p=HP.star (ds.flatMap DE.eN)∧(∀x∈ds,H x.k=1∧P x.k=(x.b:Nat)+1)∧(∀k,(∀x∈ds,x.k≠k)→H k=0∧P k=0)∧ds.Pairwise (fun x y=>x.k≠y.k)∧
  (∀x∈ds,x.d=wv∧∃a d:Int,x.k=oQ a d∧(a<i∨(a=i∧d<j)))∧
  ∀a d:Int,0≤a→0≤d→d<A0 a.toNat→(a<i∨(a=i∧d<j))→∃x∈ds,x.k=oQ a d
theorem Made.start{A0:Nat→Int}:Made A0 0 0 (fun _=>0) (fun _=>0) (HP.star []):=⟨[],rfl,fun _ h=>(nomatch h),fun _ _=>⟨rfl,rfl⟩,List.Pairwise.nil,fun _ h=>(nomatch h),fun a d h1 h2 h3 h4=>by omega⟩
theorem Made.next{A0:Nat→Int}{i j:Int}{H P:Nat→Int}{p:HP}(h:Made A0 i j H P p)(hj:A0 i.toNat≤j):Made A0 (i+1) 0 H P p:=by
 obtain⟨ds,h1,h2,h3,h4,h5,h6⟩:=h;refine⟨ds,h1,h2,h3,h4,fun x hx=>?_,fun a d k1 k2 k3 k4=>?_⟩
 ·obtain⟨q1,a,d,q2,q3⟩:=h5 x hx;exact⟨q1,a,d,q2,by omega⟩
 ·refine h6 a d k1 k2 k3 ?_;by_cases e:a=i
  ·subst e;omega
  ·omega
theorem Made.more{A0:Nat→Int}{i j:Int}{H P:Nat→Int}{ds:List DE}(h2: ∀x∈ds,H x.k=1∧P x.k=(x.b:Nat)+1)(h3: ∀k,(∀x∈ds,x.k≠k)→H k=0∧P k=0)(h4:ds.Pairwise fun x y=>x.k≠y.k)
  (h5: ∀x∈ds,x.d=wv∧∃a d:Int,x.k=oQ a d∧(a<i∨(a=i∧d<j))) (h6: ∀a d:Int,0≤a→0≤d→d<A0 a.toNat→(a<i∨(a=i∧d<j))→∃x∈ds,x.k=oQ a d) (b h:Nat):
  Made A0 i (j+1) (aj H (oQ i j) 1) (aj P (oQ i j) ((b:Nat)+1)) (HP.star (((⟨oQ i j,b,h,rA,wv⟩::ds):List DE).flatMap DE.eN)):=by
 have eJ: ∀x∈ds,x.k≠oQ i j:=by
  intro x hx e;obtain⟨_,a,d,q2,q3⟩:=h5 x hx;have:=K2 (q2.symm.trans e);omega
 refine⟨_,rfl,?_,?_,?_,?_,fun a d k1 k2 k3 k4=>?_⟩
 ·intro x hx;rcases List.mem_cons.1 hx with rfl | hx
  ·simp [aj]
  ·rw [aj,if_neg (eJ x hx),aj,if_neg (eJ x hx)];exact h2 x hx
 ·intro k hk;have e:k≠oQ i j:=fun e=>hk _ agA e.symm
  rw [aj,if_neg e,aj,if_neg e];exact h3 k fun x hx=>hk x (agF _ hx)
 ·exact List.Pairwise.cons (fun x hx=>(eJ x hx).symm) h4
 ·intro x hx;rcases List.mem_cons.1 hx with rfl | hx
  ·exact⟨rfl,i,j,rfl,.inr ⟨rfl,by omega⟩⟩
  ·obtain⟨q1,a,d,q2,q3⟩:=h5 x hx;exact⟨q1,a,d,q2,by omega⟩
 ·by_cases e:a=i∧d=j
  ·obtain⟨rfl,rfl⟩:=e;exact⟨_,agA,rfl⟩
  ·obtain⟨x,hx,e2⟩:=h6 a d k1 k2 k3 (by omega);exact⟨x,agF _ hx,e2⟩
theorem gH(A0:Nat→Int)(hA: ∀j,A0 j≤4):au agQ 35 [.agg (agw (ak .u8 8 A0) ([])).toArray] []
  (fun r hs=> ∃σ:So.Sys,r= .pointer (some ⟨σ.b,0,none⟩)∧hs=[HP.star σ.eN]∧σ.Wf∧σ.cs=[]∧σ.s.last=0∧σ.s.dv=A0∧(∀x∈σ.ds,x.d=wv)∧∀a d:Int,0≤a→a<8→0≤d→d<A0 a.toNat→∃x∈σ.ds,x.k=oQ a d):=by
 refine au.post (p:=fun r hs=> ∃ey,aB hs ey∧∃σ:So.Sys,r= .pointer (some ⟨σ.b,0,none⟩)∧ey=[HP.star σ.eN]∧σ.Wf∧σ.cs=[]∧σ.s.last=0∧σ.s.dv=A0∧(∀x∈σ.ds,x.d=wv)∧∀a d:Int,0≤a→a<8→0≤d→d<A0 a.toNat→∃x∈σ.ds,x.k=oQ a d) ?_ fun v hs h=>h
 refine au.d_ (C:=Sn.cx) (args:=Sn.newArgs) (hp:=[]) (aS:={a:=1}) (ρ:={av:=[A0]}) sU iS sV Try.func35 (by constructor<;>rfl) rfl (Sn.Jh agQ _ A0 _) ?_;unfold Sn.rB;intro b0 b1 b2 b3;refine⟨fun e=>e.p.getD 0 HP.emp=HP.star [],fun w Fs o=>⟨HP.star [],aB.star (l:=[]) (fun _ hh=>(nomatch hh)) w Fs o,rfl⟩,?_⟩;rintro p0 T7;simp only [ah]at T7;subst T7;refine⟨fun e=>0≤e.i.getD 0 0∧Made A0 (e.i.getD 0 0) 0 (e.a.getD 0 fun _=>0) (e.a.getD 1 fun _=>0) (e.p.getD 0 HP.emp),fun e=>(8 - e.i.getD 0 0).toNat,⟨0,_,_,_,rfl,rfl,rfl,rfl,Int.le_refl _,Made.start⟩,?_⟩;rintro x0 A1 A2 p1 ⟨Us,F7⟩;simp only [ah,agY]at Us F7;refine aK.mk (fun cZ=>aE.mk Us fun _=>?_) fun uJ=>?_
 ·refine⟨fun e=>0≤e.i.getD 0 0∧Made A0 x0 (e.i.getD 0 0) (e.a.getD 0 fun _=>0) (e.a.getD 1 fun _=>0) (e.p.getD 0 HP.emp),fun e=>(4 - e.i.getD 0 0).toNat,⟨0,_,_,_,rfl,rfl,rfl,rfl,Int.le_refl _,F7⟩,?_⟩;rintro x1 A3 A4 p2 ⟨Il,Vf⟩;simp only [ah,agY]at Il Vf;refine aK.mk (fun hc b4 b5=>?_) fun hc=>?_
  ·obtain⟨ds,rfl,h2,h3,h4,h5,h6⟩:=Vf;refine⟨fun e=>e.p.getD 0 HP.emp=HP.star (((⟨oQ x0 x1,b5,b4,rA,wv⟩::ds):List DE).flatMap DE.eN),fun w Fs o=>⟨_,?_,rfl⟩,?_⟩
   ·have e1:aB [HP.star (ds.flatMap DE.eN),ao b5 true (.int .u8 0::(agw (ak .u8 16 (fun _=>0)) ([.bool false,.int .u8 0,.int .u8 0,.int .u8 0,.int .u64 0,.int .u64 0,.map (some b4),.slice none 0 0]))),bK b4 YI true true ([]) (fun i=> !((fun _=>0) i==0)) (cc [])]
      [HP.star (((⟨oQ x0 x1,b5,b4,rA,wv⟩::ds):List DE).flatMap DE.eN)]:=by
     refine aB.trans (So.aB.Pl _ 85 22) ?_;refine aB.trans (aB.frame (aB.eQ (ds.flatMap DE.eN)) (DE.eN ⟨oQ x0 x1,b5,b4,rA,wv⟩)) ?_;refine aB.trans (aB.perm List.perm_append_comm) ?_;refine aB.star ?_;intro h hh;exact xj ⟨0,0,0,⟨fun _=>0,0,fun _=>0,fun _=>0,fun _=>0,fun _=>0⟩,⟨oQ x0 x1,b5,b4,rA,wv⟩::ds,[]⟩ h (by
      simp only [So.Sys.eN,List.mem_append];exact .inr (.inl hh))
    exact e1 w Fs o
   ·rintro p3 ZY;simp only [ah]at ZY;subst ZY;have aeY:x1<4:=by omega
    refine⟨_,_,_,_,rfl,rfl,rfl,rfl,⟨?_,?_⟩,?_⟩
    ·simp only [ah];rw [E1 (by omega) (by omega)];omega
    ·simp only [ah,agY];rw [E1 (x:=x0) (by omega) (by omega),E1 (x:=x1+1) (by omega) (by omega)];exact Made.more h2 h3 h4 h5 h6 b5 b4
    ·simp only [ah];rw [E1 (by omega) (by omega)];omega
  ·refine aE.mk (by omega) fun _=>aE.mk (by omega) fun _=>⟨_,_,_,_,rfl,rfl,rfl,rfl,⟨?_,?_⟩,?_⟩
   ·simp only [ah];omega
   ·simp only [ah,agY];exact Vf.next (by have:=hA x0.toNat;omega)
   ·simp only [ah];omega
 ·obtain⟨ds,rfl,h2,h3,h4,h5,h6⟩:=F7;refine⟨_,?_,⟨b3,b1,b2,⟨A0,0,fun _=>0,fun _=>0,A1,A2⟩,ds,[]⟩,rfl,rfl,⟨h2,h3,fun y h=>(by cases h),fun _ _=>⟨rfl,rfl⟩,h4,List.Pairwise.nil⟩,rfl,rfl,rfl,fun x hx=>(h5 x hx).1,fun a d k1 k2 k3 k4=>h6 a d k1 k3 k4 (by omega)⟩;have e2:aB [ao b0 true (agw (ak .u8 8 A0) ([])),bK b1 YI true false ([.pointer none]) (fun i=> !((fun _=>0) i==0)) (cc [pJ 1 (fun _=>0)]),bK b2 [.u8,.u8] true false ([.pointer none]) (fun i=> !(A1 i==0)) (cc [pJ 1 A2]),ao b3 true (agw (ak .u8 8 A0) ([.map (some b1),.map (some b2),.int .u64 0])),HP.star (ds.flatMap DE.eN)]
    [HP.star (So.Sys.eN ⟨b3,b1,b2,⟨A0,0,fun _=>0,fun _=>0,A1,A2⟩,ds,[]⟩)]:=by
   refine aB.trans (aB.Yh [4,3,1,2] (by decide) (b:=[HP.star (ds.flatMap DE.eN)]++dE b3 b1 b2 ⟨A0,0,fun _=>0,fun _=>0,A1,A2⟩) ?_) ?_
   ·intro j x hj
    match j,hj with
    | 0,hj=>exact⟨4,rfl,hj⟩
    | 1,hj=>exact⟨3,rfl,hj⟩
    | 2,hj=>exact⟨1,rfl,hj⟩
    | 3,hj=>exact⟨2,rfl,hj⟩
    | j+4,hj=>cases hj
   ·refine aB.trans (aB.frame (aB.eQ (ds.flatMap DE.eN)) _) ?_;refine aB.trans (aB.perm List.perm_append_comm) ?_;have:dE b3 b1 b2 ⟨A0,0,fun _=>0,fun _=>0,A1,A2⟩++ds.flatMap DE.eN=So.Sys.eN ⟨b3,b1,b2,⟨A0,0,fun _=>0,fun _=>0,A1,A2⟩,ds,[]⟩:=by simp [So.Sys.eN]
    rw [this];exact aB.star (xj _)
  exact e2
end Go.RX.Ed

namespace Go.RX.Dq
open Go.RX Go.RX.Fr
def abD:bp:={use:=fun _ _=>[],inc:={b:=1,p:=1},val:=fun c=> .ptr c.b 0,new:=fun c _=>[.abs c.p]}
def dc(f:Nat):Option bp:=
 match f with
 | 47=>some abD
 | _=>none
def grow:List (Nat×List SV)→Nat→List (Nat×List SV)
 | es,b=>es++[(kd es.length,[.mp b])]
def V7(b:Nat):Ck→Ck
 | .ow b7 kl ka va [.iJ] es=> .ow b7 kl ka va [.iJ] (grow es b)
 | k=>k
def dev:Ck→Bool
 | .row _ _ [.int _ _,.int _ _]=>true
 | _=>false
def isMap:Ck→Bool
 | .map .. =>true
 | _=>false
def tidy(st:St):Option ct:=
 let l:=(ag5 st.hp.length).filter fun j=> !(dev (st.hp.getD j .emp))
 match (l.filter fun j=>isMap (st.hp.getD j .emp)).getLast? with
 | some j=>some {pick:=some ((l.filter fun k=>k != j)++[j])}
 | none=>none
def iI(f id:Nat):Option vD:=
 match f,id with
 | 59,100006=>some {inc:={b:=1},slots:=fun _=>[],hp:=fun c h=>(h.filter fun k=> !(dev k)).map (V7 c.b)++[.map c.b oP true false [.int .u8 (.lit 0)] (.lit 0) [⟨.int .u8,1,.lit 0⟩]],gh:=tidy}
 | _,_=>none
open Go.RX Go.Proofs
noncomputable def cx:Ctx:={T:=TT,FT:=FT,iI:=iI,dc:=dc}
open Go.RX Go.Proofs
set_option maxRecDepth 100000
def Hf(P:Program)(aq:Value→List HP→Prop):Prop:=
 ∀b0 b1 b2 b3 b4 _ _:Nat,Cl P 47 [.dv 0 0,.agg (.int .u8 2::(.int .u8 2::(agw (ak .u8 6 (fun _=>0)) ([])))).toArray] [] fun x hs _=> ∃b7:Nat,∃p0:HP,x= .pp b7∧hs=[p0]∧
 ∃uA:Ext→Prop,(
 (∀_ _ jI:Nat,∃V8:Nat,V8=jI∧V8=jI∧uA ⟨[V8],[],[],[],[],[],[]⟩)∧
 (∀b8 _ _:Nat,∃V8:Nat,V8=b8∧V8=b8∧uA ⟨[V8],[],[],[],[],[],[]⟩))∧
 ∀b8:Nat,uA ⟨[b8],[],[],[],[],[],[]⟩→
 ∀_ _:Nat,Cl P 47 [.dv 0 1,.agg (.int .u8 2::(.int .u8 2::(agw (ak .u8 6 (fun _=>0)) ([])))).toArray] [] fun x hs _=> ∃lV:Nat,∃p1:HP,x= .pp lV∧hs=[p1]∧
 ∃uA:Ext→Prop,(
 (∀_ _ zo:Nat,∃Jt:Nat,Jt=zo∧Jt=zo∧uA ⟨[Jt],[],[],[],[],[],[]⟩)∧
 (∀mr _ _:Nat,∃Jt:Nat,Jt=mr∧Jt=mr∧uA ⟨[Jt],[],[],[],[],[],[]⟩))∧
 ∀mr:Nat,uA ⟨[mr],[],[],[],[],[],[]⟩→
 ∀_ _:Nat,Cl P 47 [.dv 1 0,.agg (.int .u8 2::(.int .u8 2::(agw (ak .u8 6 (fun _=>0)) ([])))).toArray] [] fun x hs _=> ∃EL:Nat,∃p2:HP,x= .pp EL∧hs=[p2]∧
 ∃uA:Ext→Prop,(
 (∀_ _ Ry:Nat,∃Ju:Nat,Ju=Ry∧Ju=Ry∧uA ⟨[Ju],[],[],[],[],[],[]⟩)∧
 (∀BX _ _:Nat,∃Ju:Nat,Ju=BX∧Ju=BX∧uA ⟨[Ju],[],[],[],[],[],[]⟩))∧
 ∀BX:Nat,uA ⟨[BX],[],[],[],[],[],[]⟩→
 ∀_ _:Nat,Cl P 47 [.dv 1 1,.agg (.int .u8 2::(.int .u8 2::(agw (ak .u8 6 (fun _=>0)) ([])))).toArray] [] fun x hs _=> ∃Cj:Nat,∃p3:HP,x= .pp Cj∧hs=[p3]∧
 ∃uA:Ext→Prop,(
 (∀_ _ Rz:Nat,∃Jv:Nat,Jv=Rz∧Jv=Rz∧uA ⟨[Jv],[],[],[],[],[],[]⟩)∧
 (∀yX _ _:Nat,∃Jv:Nat,Jv=yX∧Jv=yX∧uA ⟨[Jv],[],[],[],[],[],[]⟩))∧
 ∀yX:Nat,uA ⟨[yX],[],[],[],[],[],[]⟩→
 aq (.pp b4) [bK b0 [.u8,.u8,.u8,.u8,.u8,.u8,.u8,.u8,.u8,.u8,.u8,.u8,.u8,.u8,.u8,.u8] true true ([.int .u8 0,.int .u8 0]) (fun i=> !((fun _=>0) i==0)) (cc [ax .u8 1 (fun _=>0),ax .u8 1 (fun _=>0)]),bK b1 [.u8,.u8,.u8,.u8,.u8,.u8,.u8,.u8,.u8,.u8,.u8,.u8,.u8,.u8,.u8,.u8] true true (agw (ak .u8 32 (fun _=>0)) ([])) (fun i=> !((fun _=>0) i==0)) (cc [ax .u8 32 (fun _=>0)]),bK b2 [.u8,.u8] true false ([.map none]) (fun i=>BZ [18,84,162,660] i) (wA [(18,[.map (some b8)]),(84,[.map (some mr)]),(162,[.map (some BX)]),(660,[.map (some yX)])] ([.map none])),bK b3 [.u8,.u8] true false ([.slice none 0 0]) (fun i=>BZ [] i) (wA [] ([.slice none 0 0])),ao b4 true ([.int .u64 1,.pp b7,.pp lV,.pp EL,.pp Cj,.slice none 0 0,.int .u16 0,.map (some b0),.map (some b1),.slice none 0 0,.map (some b2),.map (some b3),.bool false]),p0,bK b8 [.u8,.u8,.u8,.u8,.u8,.u8,.u8,.u8,.u8,.u8,.u8,.u8,.u8,.u8,.u8,.u8] true false ([.int .u8 0]) (fun i=> !((fun _=>0) i==0)) (cc [ax .u8 1 (fun _=>0)]),p1,bK mr [.u8,.u8,.u8,.u8,.u8,.u8,.u8,.u8,.u8,.u8,.u8,.u8,.u8,.u8,.u8,.u8] true false ([.int .u8 0]) (fun i=> !((fun _=>0) i==0)) (cc [ax .u8 1 (fun _=>0)]),p2,bK BX [.u8,.u8,.u8,.u8,.u8,.u8,.u8,.u8,.u8,.u8,.u8,.u8,.u8,.u8,.u8,.u8] true false ([.int .u8 0]) (fun i=> !((fun _=>0) i==0)) (cc [ax .u8 1 (fun _=>0)]),p3,bK yX [.u8,.u8,.u8,.u8,.u8,.u8,.u8,.u8,.u8,.u8,.u8,.u8,.u8,.u8,.u8,.u8] true false ([.int .u8 0]) (fun i=> !((fun _=>0) i==0)) (cc [ax .u8 1 (fun _=>0)])]
theorem P4(aq:Value→List HP→Prop)(h:Hf agQ aq):au agQ 59 [] [] aq:=
 um (C:=cx) [] [] ⟨0,0,0,0,0,0,0⟩ ⟨[],[],[],[],[],[],[],[]⟩ Try.func59 (by kernel_rfl) h
end Go.RX.Dq

namespace Go.RX.Dk
open Go.RX Go.Proofs Go.RX.Df
noncomputable def cx(di:Nat):Ctx:={T:=TT,FT:=FT,loops:=loops,dc:=dc,jq:=jq di}
end Go.RX.Dk
