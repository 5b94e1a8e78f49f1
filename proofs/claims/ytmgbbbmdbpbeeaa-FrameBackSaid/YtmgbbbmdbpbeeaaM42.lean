/- MACs by lengths (written by gen_cf.py). -/
import Derived.Test.YtmgbbbmdbpbeeaaFqQ
open Go.IntKind renaming wrap → ae
open Go.Proofs.Try renaming prog → adE
open Int renaming toNat → ag
open List renaming getD_cons_zero → ah, getElem?_eq_some_iff → adu, mem_cons → adW, not_mem_nil → adP
open List.cons renaming injEq → adF
open Nat renaming lt_of_lt_of_le → adI
namespace Go.RX.Fq
open Go Go.RX Go.Proofs Go.RX.Sh Go.RX.Fg Go.RX.Fj Go.RX.Fk Go.RX.Fm
abbrev vw(x:Value)(n:Nat)(T:Nat→Int):HP:=au false 5 1 x n (aK n [aJ .u8 1 T])
theorem ay.fw{B:List HP}{md:Bool}{v:V1}{n:Nat}{T:Nat→Int}(i:Nat)(h:B[i]? =some (bn md v n T)):ay B (vw v.v n T):=by
 obtain⟨hl,he⟩:=adu.1 h;have e:B=B.take i++[bn md v n T]++B.drop (i+1):=by
  rw [List.append_assoc,←he];simp
 rw [e];refine ay.mid ?_;cases md
 ·exact ay.self rfl
 ·exact ay.own
section
variable {f:Nat} {args:List Value} {A L B:List HP} {n:Nat} {Q:(Nat→Int)→Prop}
theorem ua(hm:ar adE f args (A++L) fun r hs=> ∃(o:V1) (N:Nat→Int),Q N∧r=o.v∧hs=A++[bn true o n N])(hA: ∀h∈A,h.wr=true)(hL: ∀h∈L,ay B h):
  ar adE f args (A++B) fun r hs=> ∃(o:V1) (N:Nat→Int),Q N∧r=o.v∧hs=A++B++[bn true o n N]:=by
 have h:ar adE f args (A++L) fun r hs=> ∃nw,(∃(o:V1) (N:Nat→Int),Q N∧r=o.v∧nw=[bn true o n N])∧hs=A++nw:=by
  refine ar.post hm ?_;rintro r hs ⟨o,N,hq,hr,rfl⟩;exact⟨_,bU.refl _,_,⟨o,N,hq,hr,rfl⟩,rfl⟩
 refine ar.post (ar.iV h hA ?_ hL) ?_
 ·rintro v nw ⟨o,N,_,_,rfl⟩ h hh;simp only [adW,adP,or_false]at hh;subst hh;rfl
 ·rintro r hs ⟨nw,⟨o,N,hq,hr,rfl⟩,rfl⟩;exact⟨_,bU.refl _,o,N,hq,hr,rfl⟩
theorem ub(hm:ar adE f args (A++L) fun r hs=> ∃(o:V1) (N:Nat→Int),Q N∧r=o.v∧hs=(A++L)++[bn true o n N])(hA: ∀h∈A,h.wr=true)(hL: ∀h∈L,ay B h):
  ar adE f args (A++B) fun r hs=> ∃(o:V1) (N:Nat→Int),Q N∧r=o.v∧hs=A++B++[bn true o n N]:=by
 refine ua (ar.post hm ?_) hA hL;rintro r hs ⟨o,N,hq,hr,rfl⟩;exact⟨_,bU.sub (List.Sublist.append (List.sublist_append_left _ _) (List.Sublist.refl _)),o,N,hq,hr,rfl⟩
theorem Cz(hm:ar adE f args L fun r hs=> ∃(o:V1) (N:Nat→Int),Q N∧r=o.v∧hs=[bn true o n N])(hL: ∀h∈L,ay B h):
  ar adE f args B fun r hs=> ∃(o:V1) (N:Nat→Int),Q N∧r=o.v∧hs=B++[bn true o n N]:=ua (A:=[]) hm (by simp) hL
end
theorem vo{B:List HP}{x:Value}(hx:x.oneCell'=true)(w:Nat)(h:ay B (aL x 1 fun _=>w)):ar adE 57 [x,.int .i64 64] B fun r hs=> ∃(o:V1) (N:Nat→Int),True∧r=o.v∧hs=B++[bn true o 64 N]:=by
 refine ar.post (Fm.sL hx w h) ?_;rintro r hs ⟨o,rfl,rfl⟩;exact⟨_,bU.refl _,o,_,trivial,rfl,rfl⟩
theorem EY(v0:V1)(A0:Nat→Int):ar adE 57 [v0.v,.int .i64 128] [bn false v0 1 A0] fun r hs=> ∃(o:V1) (N:Nat→Int),True∧r=o.v∧hs=[bn true o 128 N]:=by
 refine ar.post (p:=fun r hs=> ∃(v:V1) (F:Nat→Int),r=aC 1 v.v 0 128 (some 128)∧hs=[bn true v 128 F]) ?_ ?_;rotate_left
 ·rintro r hs ⟨v,F,rfl,rfl⟩;refine⟨_,bU.part (m:=128) (mx:=some 128) (Nat.le_refl _) (fun x hx=>by cases hx;omega) (by decide),⟨_,aI 1 v.v 0 128 (some 128)⟩,F,trivial,rfl,?_⟩;rw [gl,dq .u8 128 128 _ (Nat.le_refl _)];unfold bn;rw [gl]
 refine Bk _ A0 v0 ?_;unfold rN;refine⟨_,EU 128 (by decide),?_⟩;rintro x hs ⟨v1,A1,rfl,rfl⟩;exact⟨v1,128,A1,rfl,rfl,by omega,fun _=>⟨v1,_,rfl,rfl⟩⟩
theorem sM{B:List HP}{x:Value}(hx:x.oneCell'=true)(w:Nat)(h:ay B (aL x 1 fun _=>w)):ar adE 57 [x,.int .i64 128] B fun r hs=> ∃(o:V1) (N:Nat→Int),True∧r=o.v∧hs=B++[bn true o 128 N]:=
 Cz (Q:=fun _=>True) (EY ⟨x,hx⟩ fun _=>(w:Int)) (iZ h)
theorem pI{B:List HP}(b1:Nat){x0 x1:Value}(h0:x0.oneCell'=true)(h1:x1.oneCell'=true)(n0 n1:Nat)(T0 T1:Nat→Int)(hl:n0+n1+600≤140737488355328)(g0:ay B (vw x0 n0 T0))(g1:ay B (vw x1 n1 T1)):ar adE 48 [.int .u8 1,.slice (some ⟨b1,0,none⟩) 2 2] ([aq b1 true [x0,x1]]++B) fun r hs=> ∃(o:V1) (N:Nat→Int),fD N∧r=o.v∧hs=[aq b1 true [x0,x1]]++B++[bn true o 32 N]:=by
 refine ub (A:=[aq b1 true [x0,x1]]) (L:=[vw x0 n0 T0,vw x1 n1 T1]) (Q:=fD) (Bm b1 ⟨x0,h0⟩ ⟨x1,h1⟩ n0 n1 T0 T1 hl) (iZ rfl) (Kb g0 g1)
theorem yz{B:List HP}(vl:V1){x0 x1:Value}(h0:x0.oneCell'=true)(h1:x1.oneCell'=true)(n0 n1:Nat)(T0 T1:Nat→Int)(hl:n0+n1+600≤140737488355328)(g0:ay B (vw x0 n0 T0))(g1:ay B (vw x1 n1 T1)):ar adE 48 [.int .u8 1,vl.v] ([au true 23 1 vl.v 2 [x0,x1]]++B) fun r hs=> ∃(o:V1) (N:Nat→Int),fD N∧r=o.v∧hs=[au true 23 1 vl.v 2 [x0,x1]]++B++[bn true o 32 N]:=by
 refine ub (A:=[au true 23 1 vl.v 2 [x0,x1]]) (L:=[vw x0 n0 T0,vw x1 n1 T1]) (Q:=fD) (Bo vl ⟨x0,h0⟩ ⟨x1,h1⟩ n0 n1 T0 T1 hl) (iZ rfl) (Kb g0 g1)
theorem yA{B:List HP}(vl:V1){x0 x1 x2 x3:Value}(h0:x0.oneCell'=true)(h1:x1.oneCell'=true)(h2:x2.oneCell'=true)(h3:x3.oneCell'=true)(n0 n1 n2 n3:Nat)(T0 T1 T2 T3:Nat→Int)(hl:n0+n1+n2+n3+600≤140737488355328)(g0:ay B (vw x0 n0 T0))(g1:ay B (vw x1 n1 T1))(g2:ay B (vw x2 n2 T2))(g3:ay B (vw x3 n3 T3)):ar adE 48 [.int .u8 1,vl.v] ([au true 23 1 vl.v 4 [x0,x1,x2,x3]]++B) fun r hs=> ∃(o:V1) (N:Nat→Int),fD N∧r=o.v∧hs=[au true 23 1 vl.v 4 [x0,x1,x2,x3]]++B++[bn true o 32 N]:=by
 refine ub (A:=[au true 23 1 vl.v 4 [x0,x1,x2,x3]]) (L:=[vw x0 n0 T0,vw x1 n1 T1,vw x2 n2 T2,vw x3 n3 T3]) (Q:=fD) (Bq vl ⟨x0,h0⟩ ⟨x1,h1⟩ ⟨x2,h2⟩ ⟨x3,h3⟩ n0 n1 n2 n3 T0 T1 T2 T3 hl) (iZ rfl) (P5 g0 g1 g2 g3)
theorem pJ{B:List HP}(b1:Nat){x0 x1:Value}(h0:x0.oneCell'=true)(h1:x1.oneCell'=true)(n0 n1:Nat)(T0 T1:Nat→Int)(hl:n0+n1+600≤140737488355328)(g0:ay B (vw x0 n0 T0))(g1:ay B (vw x1 n1 T1)):ar adE 48 [.int .u8 2,.slice (some ⟨b1,0,none⟩) 2 2] ([aq b1 true [x0,x1]]++B) fun r hs=> ∃(o:V1) (N:Nat→Int),fD N∧r=o.v∧hs=[aq b1 true [x0,x1]]++B++[bn true o 64 N]:=by
 refine ub (A:=[aq b1 true [x0,x1]]) (L:=[vw x0 n0 T0,vw x1 n1 T1]) (Q:=fD) (Bt b1 ⟨x0,h0⟩ ⟨x1,h1⟩ n0 n1 T0 T1 hl) (iZ rfl) (Kb g0 g1)
theorem yB{B:List HP}(vl:V1){x0 x1:Value}(h0:x0.oneCell'=true)(h1:x1.oneCell'=true)(n0 n1:Nat)(T0 T1:Nat→Int)(hl:n0+n1+600≤140737488355328)(g0:ay B (vw x0 n0 T0))(g1:ay B (vw x1 n1 T1)):ar adE 48 [.int .u8 2,vl.v] ([au true 23 1 vl.v 2 [x0,x1]]++B) fun r hs=> ∃(o:V1) (N:Nat→Int),fD N∧r=o.v∧hs=[au true 23 1 vl.v 2 [x0,x1]]++B++[bn true o 64 N]:=by
 refine ub (A:=[au true 23 1 vl.v 2 [x0,x1]]) (L:=[vw x0 n0 T0,vw x1 n1 T1]) (Q:=fD) (Bv vl ⟨x0,h0⟩ ⟨x1,h1⟩ n0 n1 T0 T1 hl) (iZ rfl) (Kb g0 g1)
theorem yC{B:List HP}(vl:V1){x0 x1 x2 x3:Value}(h0:x0.oneCell'=true)(h1:x1.oneCell'=true)(h2:x2.oneCell'=true)(h3:x3.oneCell'=true)(n0 n1 n2 n3:Nat)(T0 T1 T2 T3:Nat→Int)(hl:n0+n1+n2+n3+600≤140737488355328)(g0:ay B (vw x0 n0 T0))(g1:ay B (vw x1 n1 T1))(g2:ay B (vw x2 n2 T2))(g3:ay B (vw x3 n3 T3)):ar adE 48 [.int .u8 2,vl.v] ([au true 23 1 vl.v 4 [x0,x1,x2,x3]]++B) fun r hs=> ∃(o:V1) (N:Nat→Int),fD N∧r=o.v∧hs=[au true 23 1 vl.v 4 [x0,x1,x2,x3]]++B++[bn true o 64 N]:=by
 refine ub (A:=[au true 23 1 vl.v 4 [x0,x1,x2,x3]]) (L:=[vw x0 n0 T0,vw x1 n1 T1,vw x2 n2 T2,vw x3 n3 T3]) (Q:=fD) (Bx vl ⟨x0,h0⟩ ⟨x1,h1⟩ ⟨x2,h2⟩ ⟨x3,h3⟩ n0 n1 n2 n3 T0 T1 T2 T3 hl) (iZ rfl) (P5 g0 g1 g2 g3)
theorem Kd(v0:V1)(n:Nat)(hn:n≤64)(T:Nat→Int)(w:Nat):ar adE 49 [.int .u8 1,v0.v,.int .u8 (w:Int)] [bn false v0 n T] fun r hs=> ∃(o:V1) (N:Nat→Int),True∧r=o.v∧hs=[bn true o 64 N]:=by
 refine Lg _ (w:Int) (n:Int) T v0 ?_;unfold Ds;refine⟨by omega,fun _=>⟨fun h=>absurd h (by omega),fun _=>?_⟩⟩;intro b0;refine⟨_,vo (B:=[aq b0 true [.int .u8 (w:Int)]]) rfl w (ay.block (b:=b0) (n:=1) (m:=1) (wr:=true) (A:=fun _=>(w:Int)) (T:=fun _=>w) (fun _ _=>rfl) (Nat.le_refl _)),?_⟩;rintro x hs ⟨v1,N,_,rfl,rfl⟩;refine⟨v1,64,N,rfl,rfl,?_⟩;refine⟨fun e=> ∃i:Nat,i≤n∧e.i=[(i:Int)],fun e=>((n:Int) - e.i.getD 0 0).toNat,⟨0,_,rfl,fun _ _=>rfl,0,by omega,rfl⟩,?_⟩;rintro x2 A2 ⟨i,hi,hx⟩;simp only [adF,and_true]at hx;subst hx;refine⟨fun bP=>?_,fun ig=>⟨v1,A2,trivial,rfl,rfl⟩⟩
 iterate 4 refine⟨by omega,fun _=>?_⟩
 refine⟨_,_,rfl,fun _ _=>rfl,⟨i+1,by omega,rfl⟩,?_⟩;simp only [ah];omega
theorem vp{B:List HP}{x:Value}(hx:x.oneCell'=true)(n:Nat)(hn:n≤64)(T:Nat→Int)(w:Nat)(h:ay B (vw x n T)):ar adE 49 [.int .u8 1,x,.int .u8 (w:Int)] B fun r hs=> ∃(o:V1) (N:Nat→Int),True∧r=o.v∧hs=B++[bn true o 64 N]:=
 Cz (Q:=fun _=>True) (Kd ⟨x,hx⟩ n hn T w) (iZ h)
theorem yD(w:Nat):ar adE 49 [.int .u8 1,.slice none 0 0,.int .u8 (w:Int)] [] fun r hs=> ∃(o:V1) (N:Nat→Int),True∧r=o.v∧hs=[bn true o 64 N]:=by
 refine Jb _ (w:Int) ?_;unfold Af;intro b0;refine⟨_,vo (B:=[aq b0 true [.int .u8 (w:Int)]]) rfl w (ay.block (b:=b0) (n:=1) (m:=1) (wr:=true) (A:=fun _=>(w:Int)) (T:=fun _=>w) (fun _ _=>rfl) (Nat.le_refl _)),?_⟩;rintro x hs ⟨v1,N,_,rfl,rfl⟩;refine⟨v1,64,N,rfl,rfl,?_⟩;refine⟨fun e=>e.i=[0],fun _=>0,⟨0,_,rfl,fun _ _=>rfl,rfl⟩,?_⟩;rintro x2 A2 hx;simp only [adF,and_true]at hx;subst hx;exact⟨fun h=>absurd h (by decide),fun _=>⟨v1,A2,trivial,rfl,rfl⟩⟩
theorem Ke(v0:V1)(n:Nat)(hn:n≤128)(T:Nat→Int)(w:Nat):ar adE 49 [.int .u8 2,v0.v,.int .u8 (w:Int)] [bn false v0 n T] fun r hs=> ∃(o:V1) (N:Nat→Int),True∧r=o.v∧hs=[bn true o 128 N]:=by
 refine Lh _ (w:Int) (n:Int) T v0 ?_;unfold Dt;refine⟨by omega,fun _=>⟨fun h=>absurd h (by omega),fun _=>?_⟩⟩;intro b0;refine⟨_,sM (B:=[aq b0 true [.int .u8 (w:Int)]]) rfl w (ay.block (b:=b0) (n:=1) (m:=1) (wr:=true) (A:=fun _=>(w:Int)) (T:=fun _=>w) (fun _ _=>rfl) (Nat.le_refl _)),?_⟩;rintro x hs ⟨v1,N,_,rfl,rfl⟩;refine⟨v1,128,N,rfl,rfl,?_⟩;refine⟨fun e=> ∃i:Nat,i≤n∧e.i=[(i:Int)],fun e=>((n:Int) - e.i.getD 0 0).toNat,⟨0,_,rfl,fun _ _=>rfl,0,by omega,rfl⟩,?_⟩;rintro x2 A2 ⟨i,hi,hx⟩;simp only [adF,and_true]at hx;subst hx;refine⟨fun bP=>?_,fun ig=>⟨v1,A2,trivial,rfl,rfl⟩⟩
 iterate 4 refine⟨by omega,fun _=>?_⟩
 refine⟨_,_,rfl,fun _ _=>rfl,⟨i+1,by omega,rfl⟩,?_⟩;simp only [ah];omega
theorem vq{B:List HP}{x:Value}(hx:x.oneCell'=true)(n:Nat)(hn:n≤128)(T:Nat→Int)(w:Nat)(h:ay B (vw x n T)):ar adE 49 [.int .u8 2,x,.int .u8 (w:Int)] B fun r hs=> ∃(o:V1) (N:Nat→Int),True∧r=o.v∧hs=B++[bn true o 128 N]:=
 Cz (Q:=fun _=>True) (Ke ⟨x,hx⟩ n hn T w) (iZ h)
theorem yE(w:Nat):ar adE 49 [.int .u8 2,.slice none 0 0,.int .u8 (w:Int)] [] fun r hs=> ∃(o:V1) (N:Nat→Int),True∧r=o.v∧hs=[bn true o 128 N]:=by
 refine Jc _ (w:Int) ?_;unfold Ag;intro b0;refine⟨_,sM (B:=[aq b0 true [.int .u8 (w:Int)]]) rfl w (ay.block (b:=b0) (n:=1) (m:=1) (wr:=true) (A:=fun _=>(w:Int)) (T:=fun _=>w) (fun _ _=>rfl) (Nat.le_refl _)),?_⟩;rintro x hs ⟨v1,N,_,rfl,rfl⟩;refine⟨v1,128,N,rfl,rfl,?_⟩;refine⟨fun e=>e.i=[0],fun _=>0,⟨0,_,rfl,fun _ _=>rfl,rfl⟩,?_⟩;rintro x2 A2 hx;simp only [adF,and_true]at hx;subst hx;exact⟨fun h=>absurd h (by decide),fun _=>⟨v1,A2,trivial,rfl,rfl⟩⟩
set_option maxHeartbeats 1000000 in
theorem G1(b1:Nat)(w0:V1)(n0:Nat)(T0:Nat→Int)(hl:n0+900≤140737488355328):ar adE 31 [.int .u8 1,.slice none 0 0,.slice (some ⟨b1,0,none⟩) 1 1] [aq b1 true [w0.v],bn false w0 n0 T0] fun r hs=> ∃(o:V1) (N:Nat→Int),fD N∧r=o.v∧hs=[aq b1 true [w0.v]]++[bn true o 32 N]:=by
 refine Du _ (n0:Int) T0 w0 b1 ?_;unfold uD;refine⟨_,yD 54,?_⟩;rintro x hs ⟨v7,N1,_,rfl,rfl⟩;refine⟨v7,64,N1,rfl,rfl,?_⟩;intro b2 v8;refine⟨_,yz (B:=[bn true v7 64 N1,bn false w0 n0 T0]) v8 v7.one w0.one 64 n0 N1 T0 (by omega) (ay.fw 0 rfl) (ay.fw 1 rfl),?_⟩;rintro x hs ⟨v9,N2,_,rfl,rfl⟩;refine⟨v9,32,N2,rfl,rfl,?_⟩;refine⟨_,yD 92,?_⟩;rintro x hs ⟨v10,N3,_,rfl,rfl⟩;refine⟨v10,64,N3,rfl,rfl,?_⟩;intro b3;refine⟨_,pI (B:=[bn true v10 64 N3,bn true v9 32 N2]) b3 v10.one v9.one 64 32 N3 N2 (by omega) (ay.fw 0 rfl) (ay.fw 1 rfl),?_⟩;rintro x hs ⟨v11,N4,h4,rfl,rfl⟩;exact⟨v11,32,N4,rfl,rfl,v11,N4,h4,rfl,rfl⟩
set_option maxHeartbeats 1000000 in
theorem Kf(b1:Nat)(w0 w1 w2 vk:V1)(n0 n1 n2 nk:Nat)(T0 T1 T2 TK:Nat→Int)(hk:nk≤64)(hl:n0+n1+n2+900≤140737488355328):ar adE 31 [.int .u8 1,vk.v,.slice (some ⟨b1,0,none⟩) 3 3] [aq b1 true [w0.v,w1.v,w2.v],bn false w0 n0 T0,bn false w1 n1 T1,bn false w2 n2 T2,bn false vk nk TK] fun r hs=> ∃(o:V1) (N:Nat→Int),fD N∧r=o.v∧hs=[aq b1 true [w0.v,w1.v,w2.v]]++[bn true o 32 N]:=by
 refine F3 _ (n0:Int) (n1:Int) (n2:Int) (nk:Int) T0 T1 T2 TK w0 w1 w2 vk b1 ?_;unfold xf;refine⟨_,vp (B:=[bn false vk nk TK]) vk.one nk hk TK 54 (ay.fw 0 rfl),?_⟩;rintro x hs ⟨v7,N1,_,rfl,rfl⟩;refine⟨v7,64,N1,rfl,rfl,?_⟩;intro b2 v8;refine⟨_,yA (B:=[bn true v7 64 N1,bn false w0 n0 T0,bn false w1 n1 T1,bn false w2 n2 T2]) v8 v7.one w0.one w1.one w2.one 64 n0 n1 n2 N1 T0 T1 T2 (by omega) (ay.fw 0 rfl) (ay.fw 1 rfl) (ay.fw 2 rfl) (ay.fw 3 rfl),?_⟩;rintro x hs ⟨v9,N2,_,rfl,rfl⟩;refine⟨v9,32,N2,rfl,rfl,?_⟩;refine⟨_,vp (B:=[bn false vk nk TK]) vk.one nk hk TK 92 (ay.fw 0 rfl),?_⟩;rintro x hs ⟨v10,N3,_,rfl,rfl⟩;refine⟨v10,64,N3,rfl,rfl,?_⟩;intro b3;refine⟨_,pI (B:=[bn true v10 64 N3,bn true v9 32 N2]) b3 v10.one v9.one 64 32 N3 N2 (by omega) (ay.fw 0 rfl) (ay.fw 1 rfl),?_⟩;rintro x hs ⟨v11,N4,h4,rfl,rfl⟩;exact⟨v11,32,N4,rfl,rfl,v11,N4,h4,rfl,rfl⟩
theorem EZ{B:List HP}(b1:Nat){x0 x1 x2 xk:Value}(h0:x0.oneCell'=true)(h1:x1.oneCell'=true)(h2:x2.oneCell'=true)(hx:xk.oneCell'=true)(n0 n1 n2 nk:Nat)(T0 T1 T2 TK:Nat→Int)(hk:nk≤64)(hl:n0+n1+n2+900≤140737488355328)(g0:ay B (vw x0 n0 T0))(g1:ay B (vw x1 n1 T1))(g2:ay B (vw x2 n2 T2))(gk:ay B (vw xk nk TK)):
  ar adE 31 [.int .u8 1,xk,.slice (some ⟨b1,0,none⟩) 3 3] ([aq b1 true [x0,x1,x2]]++B) fun r hs=> ∃(o:V1) (N:Nat→Int),fD N∧r=o.v∧hs=[aq b1 true [x0,x1,x2]]++B++[bn true o 32 N]:=
 ua (A:=[aq b1 true [x0,x1,x2]]) (L:=[vw x0 n0 T0,vw x1 n1 T1,vw x2 n2 T2,vw xk nk TK]) (Q:=fD) (Kf b1 ⟨x0,h0⟩ ⟨x1,h1⟩ ⟨x2,h2⟩ ⟨xk,hx⟩ n0 n1 n2 nk T0 T1 T2 TK hk hl) (iZ rfl) (P5 g0 g1 g2 gk)
theorem CA{B:List HP}(b1:Nat){x0:Value}(h0:x0.oneCell'=true)(n0:Nat)(T0:Nat→Int)(hl:n0+900≤140737488355328)(g0:ay B (vw x0 n0 T0)):
  ar adE 31 [.int .u8 1,.slice none 0 0,.slice (some ⟨b1,0,none⟩) 1 1] ([aq b1 true [x0]]++B) fun r hs=> ∃(o:V1) (N:Nat→Int),fD N∧r=o.v∧hs=[aq b1 true [x0]]++B++[bn true o 32 N]:=
 ua (A:=[aq b1 true [x0]]) (L:=[vw x0 n0 T0]) (Q:=fD) (G1 b1 ⟨x0,h0⟩ n0 T0 hl) (iZ rfl) (iZ g0)
set_option maxHeartbeats 1000000 in
theorem G2(b1:Nat)(w0:V1)(n0:Nat)(T0:Nat→Int)(hl:n0+900≤140737488355328):ar adE 31 [.int .u8 2,.slice none 0 0,.slice (some ⟨b1,0,none⟩) 1 1] [aq b1 true [w0.v],bn false w0 n0 T0] fun r hs=> ∃(o:V1) (N:Nat→Int),fD N∧r=o.v∧hs=[aq b1 true [w0.v]]++[bn true o 64 N]:=by
 refine Dv _ (n0:Int) T0 w0 b1 ?_;unfold uE;refine⟨_,yE 54,?_⟩;rintro x hs ⟨v7,N1,_,rfl,rfl⟩;refine⟨v7,128,N1,rfl,rfl,?_⟩;intro b2 v8;refine⟨_,yB (B:=[bn true v7 128 N1,bn false w0 n0 T0]) v8 v7.one w0.one 128 n0 N1 T0 (by omega) (ay.fw 0 rfl) (ay.fw 1 rfl),?_⟩;rintro x hs ⟨v9,N2,_,rfl,rfl⟩;refine⟨v9,64,N2,rfl,rfl,?_⟩;refine⟨_,yE 92,?_⟩;rintro x hs ⟨v10,N3,_,rfl,rfl⟩;refine⟨v10,128,N3,rfl,rfl,?_⟩;intro b3;refine⟨_,pJ (B:=[bn true v10 128 N3,bn true v9 64 N2]) b3 v10.one v9.one 128 64 N3 N2 (by omega) (ay.fw 0 rfl) (ay.fw 1 rfl),?_⟩;rintro x hs ⟨v11,N4,h4,rfl,rfl⟩;exact⟨v11,64,N4,rfl,rfl,v11,N4,h4,rfl,rfl⟩
set_option maxHeartbeats 1000000 in
theorem Kg(b1:Nat)(w0 w1 w2 vk:V1)(n0 n1 n2 nk:Nat)(T0 T1 T2 TK:Nat→Int)(hk:nk≤128)(hl:n0+n1+n2+900≤140737488355328):ar adE 31 [.int .u8 2,vk.v,.slice (some ⟨b1,0,none⟩) 3 3] [aq b1 true [w0.v,w1.v,w2.v],bn false w0 n0 T0,bn false w1 n1 T1,bn false w2 n2 T2,bn false vk nk TK] fun r hs=> ∃(o:V1) (N:Nat→Int),fD N∧r=o.v∧hs=[aq b1 true [w0.v,w1.v,w2.v]]++[bn true o 64 N]:=by
 refine F4 _ (n0:Int) (n1:Int) (n2:Int) (nk:Int) T0 T1 T2 TK w0 w1 w2 vk b1 ?_;unfold xg;refine⟨_,vq (B:=[bn false vk nk TK]) vk.one nk hk TK 54 (ay.fw 0 rfl),?_⟩;rintro x hs ⟨v7,N1,_,rfl,rfl⟩;refine⟨v7,128,N1,rfl,rfl,?_⟩;intro b2 v8;refine⟨_,yC (B:=[bn true v7 128 N1,bn false w0 n0 T0,bn false w1 n1 T1,bn false w2 n2 T2]) v8 v7.one w0.one w1.one w2.one 128 n0 n1 n2 N1 T0 T1 T2 (by omega) (ay.fw 0 rfl) (ay.fw 1 rfl) (ay.fw 2 rfl) (ay.fw 3 rfl),?_⟩;rintro x hs ⟨v9,N2,_,rfl,rfl⟩;refine⟨v9,64,N2,rfl,rfl,?_⟩;refine⟨_,vq (B:=[bn false vk nk TK]) vk.one nk hk TK 92 (ay.fw 0 rfl),?_⟩;rintro x hs ⟨v10,N3,_,rfl,rfl⟩;refine⟨v10,128,N3,rfl,rfl,?_⟩;intro b3;refine⟨_,pJ (B:=[bn true v10 128 N3,bn true v9 64 N2]) b3 v10.one v9.one 128 64 N3 N2 (by omega) (ay.fw 0 rfl) (ay.fw 1 rfl),?_⟩;rintro x hs ⟨v11,N4,h4,rfl,rfl⟩;exact⟨v11,64,N4,rfl,rfl,v11,N4,h4,rfl,rfl⟩
theorem E0{B:List HP}(b1:Nat){x0 x1 x2 xk:Value}(h0:x0.oneCell'=true)(h1:x1.oneCell'=true)(h2:x2.oneCell'=true)(hx:xk.oneCell'=true)(n0 n1 n2 nk:Nat)(T0 T1 T2 TK:Nat→Int)(hk:nk≤128)(hl:n0+n1+n2+900≤140737488355328)(g0:ay B (vw x0 n0 T0))(g1:ay B (vw x1 n1 T1))(g2:ay B (vw x2 n2 T2))(gk:ay B (vw xk nk TK)):
  ar adE 31 [.int .u8 2,xk,.slice (some ⟨b1,0,none⟩) 3 3] ([aq b1 true [x0,x1,x2]]++B) fun r hs=> ∃(o:V1) (N:Nat→Int),fD N∧r=o.v∧hs=[aq b1 true [x0,x1,x2]]++B++[bn true o 64 N]:=
 ua (A:=[aq b1 true [x0,x1,x2]]) (L:=[vw x0 n0 T0,vw x1 n1 T1,vw x2 n2 T2,vw xk nk TK]) (Q:=fD) (Kg b1 ⟨x0,h0⟩ ⟨x1,h1⟩ ⟨x2,h2⟩ ⟨xk,hx⟩ n0 n1 n2 nk T0 T1 T2 TK hk hl) (iZ rfl) (P5 g0 g1 g2 gk)
theorem CB{B:List HP}(b1:Nat){x0:Value}(h0:x0.oneCell'=true)(n0:Nat)(T0:Nat→Int)(hl:n0+900≤140737488355328)(g0:ay B (vw x0 n0 T0)):
  ar adE 31 [.int .u8 2,.slice none 0 0,.slice (some ⟨b1,0,none⟩) 1 1] ([aq b1 true [x0]]++B) fun r hs=> ∃(o:V1) (N:Nat→Int),fD N∧r=o.v∧hs=[aq b1 true [x0]]++B++[bn true o 64 N]:=
 ua (A:=[aq b1 true [x0]]) (L:=[vw x0 n0 T0]) (Q:=fD) (G2 b1 ⟨x0,h0⟩ n0 T0 hl) (iZ rfl) (iZ g0)
end Go.RX.Fq

namespace Go.Hd
open Go.Gh
def dg(n:Nat):Nat:=
 if n=0 then 0 else if n<256 then 1 else if n<65536 then 2 else if n<16777216 then 3 else if n<4294967296 then 4 else if n<1099511627776 then 5
 else if n<281474976710656 then 6 else if n<72057594037927936 then 7 else 8
theorem IA(n:Nat):dg n≤8:=by
 unfold dg
 repeat (first | omega | split)
theorem Qa(m c:Nat)(hc:c<256)(hm:m<72057594037927936)(h:m*256+c≠0):dg (m*256+c)=dg m+1:=by
 unfold dg;rw [if_neg h];by_cases h0:m=0
 ·rw [if_pos h0,if_pos (by omega)]
 rw [if_neg h0,if_neg (by omega)];by_cases h1:m<256
 ·rw [if_pos h1,if_pos (by omega)]
 rw [if_neg h1,if_neg (by omega)];by_cases h2:m<65536
 ·rw [if_pos h2,if_pos (by omega)]
 rw [if_neg h2,if_neg (by omega)];by_cases h3:m<16777216
 ·rw [if_pos h3,if_pos (by omega)]
 rw [if_neg h3,if_neg (by omega)];by_cases h4:m<4294967296
 ·rw [if_pos h4,if_pos (by omega)]
 rw [if_neg h4,if_neg (by omega)];by_cases h5:m<1099511627776
 ·rw [if_pos h5,if_pos (by omega)]
 rw [if_neg h5,if_neg (by omega)];by_cases h6:m<281474976710656
 ·rw [if_pos h6,if_pos (by omega)]
 rw [if_neg h6,if_neg (by omega),if_pos hm]
theorem CC:dg 0=0:=rfl
theorem G3{n:Nat}(h:n≠0):0<dg n:=by
 unfold dg;rw [if_neg h]
 repeat (first | omega | split)
def be(k n j:Nat):Nat:=n/256^(k - 1 - j)%256
theorem Vr(k n j:Nat):be k n j<256:=Nat.mod_lt _ (by decide)
theorem Qb(k m c j:Nat)(hc:c<256)(hj:j<k+1):be (k+1) (m*256+c) j=if j<k then be k m j else c:=by
 unfold be;split
 ·rename_i h;rw [show k+1 - 1 - j=(k - 1 - j)+1 by omega,Nat.pow_succ,Nat.mul_comm (256^_) 256,←Nat.div_div_eq_div_mul,show(m*256+c)/256=m by omega]
 ·rename_i h;rw [show k+1 - 1 - j=0 by omega,Nat.pow_zero,Nat.div_one];omega
def hb(n:Nat):Nat:=if n<8 then 0 else dg n
def jE(n:Nat):Nat:=if n<8 then n else 7+dg n
theorem qL(n:Nat):hb n≤8:=by
 unfold hb;split
 ·omega
 ·exact IA n
theorem uc(n:Nat):jE n<16:=by
 unfold jE;have:=IA n;split<;>omega
def aY(aM aP:Nat):Nat:=1+hb aM+hb aP
def eI(aM aP j:Nat):Nat:=if j=0 then jE aM*16+jE aP else if j<1+hb aM then be (hb aM) aM (j - 1)else be (hb aP) aP (j - (1+hb aM))
theorem yF(aM aP j:Nat):eI aM aP j<256:=by
 unfold eI;have h1:=uc aM;have h2:=uc aP;split
 ·omega
 split<;>exact Vr _ _ _
theorem M5(aM aP:Nat):aY aM aP≤17:=by
 unfold aY;have:=qL aM;have:=qL aP;omega
def nk(T:Nat→Nat):Nat:=if T 0/16<8 then 0 else T 0/16 - 7
def nc(T:Nat→Nat):Nat:=if T 0%16<8 then 0 else T 0%16 - 7
def fZ(T:Nat→Nat):Nat:=if T 0/16<8 then T 0/16 else sJ (fun j=>T (1+j)) (nk T)
def bM(T:Nat→Nat):Nat:=if T 0%16<8 then T 0%16 else sJ (fun j=>T (1+nk T+j)) (nc T)
def yG(n:Nat)(T:Nat→Nat):Prop:=1+nk T+nc T≤n∧hb (fZ T)=nk T∧hb (bM T)=nc T
theorem Rg{T:Nat→Nat}(hT:T 0<256):nk T≤8:=by
 unfold nk;split<;>omega
theorem M6(T:Nat→Nat):nc T≤8:=by
 unfold nc;split<;>omega
theorem IB{f:Nat→Nat}(hf: ∀j,f j<256){k:Nat}(hk:k≤8):sJ f k<18446744073709551616:=
 adI (ry f hf k) (Nat.le_trans (Nat.pow_le_pow_right (by decide) hk) (by decide))
theorem SU{T:Nat→Nat}(hT: ∀j,T j<256):fZ T<18446744073709551616:=by
 unfold fZ;split
 ·omega
 ·exact IB (fun j=>hT _) (Rg (hT 0))
theorem G4{T:Nat→Nat}(hT: ∀j,T j<256):bM T<18446744073709551616:=by
 unfold bM;split
 ·omega
 ·exact IB (fun j=>hT _) (M6 T)
theorem f_{n:Nat}(h:n<8):hb n=0:=by unfold hb;rw [if_pos h]
def aW(S:Nat→Nat)(aP j:Nat):Nat:=S j^^^(aP/256^(11 - j)%256)
theorem ud{S:Nat→Nat}(hS: ∀j,S j<256)(aP j:Nat):aW S aP j<256:=Ae.aS (hS j) (Nat.mod_lt _ (by decide))
def isS(s:Nat):Prop:=s=1∨s=2∨s=3∨s=4∨s=5
def qM(s:Nat):Nat:=if s=5 then 2 else 1
def db(s:Nat):Nat:=if s=4 then 16 else if s=5 then 32 else 48
def yH(s:Nat):Nat:=if s=5 then 32 else 16
def bw(s:Nat):Nat:=if s=1 then 10 else if s=2 then 8 else if s=3 then 4 else 16
def pK(s:Nat):Nat:=if s=5 then 64 else 32
end Go.Hd

namespace Go.RX.Fm
open Go Go.RX Go.Proofs Go.RX.Sh Go.RX.Fg Go.RX.Fj Go.RX.Fk Go.Hd Go.Gh
theorem Ye(i:Nat)(h:i≤7):2^(56 - 8*i)=256^(7 - i):=by
 have: ∀i,i<8→2^(56 - 8*i)=256^(7 - i):=by decide
 exact this i (by omega)
theorem bU.oa{t:Nat}:bU [] [au true t 1 (.slice none 0 0) 0 []]:=by
 intro w Fs o;refine bG.add (a:=[]) o _ (fun _=>False) (Nat.le_refl _) (fun _ _=>rfl) ⟨?_,fun k=>by simp [Value.ownBlock]⟩ fun _ h=>h.elim
 simp only [if_true];exact js w t 1
theorem gG(n:Nat)(hn:n<18446744073709551616):ar adE 32 [.int .u64 (n:Int)] [] fun r hs=> ∃o:V1,r=o.v∧hs=[al true o (hb n) (be (hb n) n)]:=by
 refine ar.post (p:=fun r hs=>(n<8∧r= .slice none 0 0∧hs=[])∨(¬n<8∧∃o:V1,r=o.v∧hs=[al true o (dg n) (be (dg n) n)])) ?_ ?_;rotate_left
 ·rintro r hs (⟨h,rfl,rfl⟩ | ⟨h,o,hr,rfl⟩)
  ·refine⟨_,bU.oa (t:=5),⟨.slice none 0 0,rfl⟩,rfl,?_⟩;rw [f_ h];rfl
  ·refine⟨_,bU.refl _,o,hr,?_⟩;unfold hb;rw [if_neg h]
 refine I_ _ (n:Int) ?_;unfold Ac;refine⟨fun h=> .inl ⟨by omega,rfl,rfl⟩,fun h8=>?_⟩;refine⟨fun e=> ∃i:Nat,i≤8∧e.i=[(56:Int) - 8*(i:Int),(dg (n/256^(8 - i)):Nat)]∧∀j,j<dg (n/256^(8 - i))→(e.a.getD 0 fun _=>0) j=(be (dg (n/256^(8 - i))) (n/256^(8 - i)) j:Nat),fun e=>(e.i.getD 0 0+8:Int).toNat,⟨_,_,_,_,rfl,rfl,rfl,rfl,fun _ _=>rfl,0,by omega,?_,?_⟩,?_⟩
 ·rw [show n/256^(8 - 0)=0 from Nat.div_eq_of_lt (by exact hn)];rfl
 ·rw [show n/256^(8 - 0)=0 from Nat.div_eq_of_lt (by exact hn)];intro j hj;exact absurd hj (by rw [CC];omega)
 rintro v1 x1 x2 A0 ⟨i,hi,hx,hA⟩;simp only [adF,and_true]at hx;obtain⟨rfl,rfl⟩:=hx;simp only [ah]at hA;have td:ag ((dg (n/256^(8 - i)):Nat):Int)=dg (n/256^(8 - i)):=rfl;rw [td];refine⟨fun ig=>?_,fun bP=>?_⟩
 ·have hi7:i≤7:=by omega
  have hc:ae .u8 (ak .shr .u64 (n:Int) ((56:Int) - 8*(i:Int)))=((n/256^(7 - i)%256:Nat):Int):=by
   rw [show(56:Int) - 8*(i:Int)=((56 - 8*i:Nat):Int) by omega,fM .u64 n _ (by show 56 - 8*i≤64;omega),wrap_u8,Nat.shiftRight_eq_div_pow,Ye i hi7]
  rw [hc];have hm:n/256^(8 - i)=n/256^(7 - i)/256:=by rw [Nat.div_div_eq_div_mul,←Nat.pow_succ,show(7 - i).succ=8 - i by omega]
  have Vs:n/256^(8 - (i+1))=n/256^(7 - i):=by rw [show 8 - (i+1)=7 - i by omega]
  obtain⟨m',Ty⟩: ∃m',m'=n/256^(7 - i):=⟨_,rfl⟩;rw [hm]at hA ⊢;rw [←Ty]at hA ⊢ Vs;have Yf:m'/256<72057594037927936:=by
   have:m'≤n:=by rw [Ty];exact Nat.div_le_self _ _
   omega
  have N7:m'=m'/256*256+m'%256:=by omega
  refine⟨by omega,fun _=>⟨fun dR=>?_,fun heq=>?_⟩⟩
  ·have JD:m'/256*256+m'%256≠0:=by
    intro h0;have h1:m'/256=0:=by omega
    rw [h1,CC]at dR;omega
   have hs:=Qa (m'/256) (m'%256) (by omega) Yf JD;rw [←N7]at hs;intro b0;have:=IA (m'/256);refine⟨by omega,fun _=>⟨by omega,fun _=>?_⟩⟩;intro v2;refine⟨by omega,fun _=>⟨by omega,fun _=>⟨v2,_,_,_,rfl,rfl,rfl,rfl,fun _ _=>rfl,⟨i+1,by omega,?_,?_⟩,?_⟩⟩⟩
   ·rw [Vs,hs];exact congrArg (fun z:Int=>[z,((dg (m'/256)+1:Nat):Int)]) (by omega)
   ·intro j hj;rw [Vs,hs]at hj ⊢;simp only [ah];unfold ao;have ZL:=Qb (dg (m'/256)) (m'/256) (m'%256) j (by omega) hj;rw [←N7]at ZL;rw [ZL];split
    ·rename_i e;rw [if_neg (by omega)]
    ·rw [if_pos (by omega)];exact hA j (by omega)
   ·simp only [ah];omega
  ·have h1:m'/256=0:=by
    by_cases h:m'/256=0
    ·exact h
    ·have:=G3 h;omega
   have h2:m'=0:=by omega
   refine⟨by omega,fun _=>⟨by omega,fun _=>⟨v1,_,_,_,rfl,rfl,rfl,rfl,fun _ _=>rfl,⟨i+1,by omega,?_,?_⟩,?_⟩⟩⟩
   ·rw [Vs,h1,h2];exact congrArg (fun z:Int=>[z,((dg 0:Nat):Int)]) (by omega)
   ·intro j hj;rw [Vs,h2,CC]at hj;omega
   ·simp only [ah];omega
 ·have ZM:i=8:=by omega
  subst ZM;rw [show n/256^(8 - 8)=n by simp]at hA ⊢;refine .inr ⟨by omega,v1,rfl,?_⟩;unfold al;dsimp only [bo,bi,bn];rw [Int.toNat_natCast,cm hA]
theorem G5: ∀n:Fin 8,ae .u8 (ak .aQ .u64 ((n.val:Nat):Int) 7)=((n.val:Nat):Int):=by decide+kernel
theorem Kh: ∀k:Fin 8,ak .bJ .u8 8 (ae .u8 ((k.val:Nat):Int))=((8+k.val:Nat):Int):=by decide+kernel
theorem M7: ∀a b:Fin 16,ak .bJ .u8 (ak .shl .u8 ((a.val:Nat):Int) 4) ((b.val:Nat):Int)=((a.val*16+b.val:Nat):Int):=by decide+kernel
theorem SW{n:Nat}(h:0<hb n):ak .bJ .u8 8 (ae .u8 (((hb n:Nat):Int) - 1))=((jE n:Nat):Int):=by
 have h8: ¬n<8:=fun h8=>by rw [f_ h8]at h;omega
 have hl:=qL n;rw [show((hb n:Nat):Int) - 1=((hb n - 1:Nat):Int) by omega,Kh ⟨hb n - 1,by omega⟩];have he:hb n=dg n:=by unfold hb;rw [if_neg h8]
 rw [he]at h;show((8+(hb n - 1):Nat):Int)=_;unfold jE;rw [if_neg h8,he];congr 1;omega
theorem SX{n:Nat}(h:hb n=0)(hn:n<18446744073709551616):ae .u8 (ak .aQ .u64 (n:Int) 7)=((jE n:Nat):Int):=by
 have h8:n<8:=by
  by_cases h8:n<8
  ·exact h8
  ·unfold hb at h;rw [if_neg h8]at h;have:=G3 (n:=n) (by omega);omega
 rw [G5 ⟨n,h8⟩];unfold jE;rw [if_pos h8]
theorem Yg: ∀a:Fin 16,ak .bJ .u8 0 ((a.val:Nat):Int)=((a.val:Nat):Int):=by decide+kernel
theorem G6(aM aP:Nat)(j:Nat)(hj:j<1+hb aM+hb aP):
  aA (ao (aA (fun _=>((jE aM:Nat):Int)) 1 (hb aM) fun j=>((be (hb aM) aM j:Nat):Int)) 0 ((jE aM*16+jE aP:Nat):Int)) (1+hb aM) (hb aP) (fun j=>((be (hb aP) aP j:Nat):Int)) j=((eI aM aP j:Nat):Int):=by
 unfold aA ao eI;by_cases h0:j=0
 ·rw [if_neg (by omega)];dsimp only;rw [if_pos h0,if_pos h0]
 by_cases h1:j<1+hb aM
 ·rw [if_neg (by omega)];dsimp only;rw [if_neg h0,if_neg h0,if_pos (by omega),if_pos h1]
 ·rw [if_pos (by omega)];dsimp only;rw [if_neg h0,if_neg h1]
set_option maxHeartbeats 1000000 in
theorem uf(aM aP:Nat)(hk:aM<18446744073709551616)(hc:aP<18446744073709551616):ar adE 17 [.agg #[.int .u64 (aM:Int),.int .u64 (aP:Int)]] [] fun r hs=> ∃o:V1,r=o.v∧hs=[al true o (aY aM aP) (eI aM aP)]:=by
 refine ar.post (p:=fun r hs=> ∃o:V1,r=o.v∧hs[1]? =some (al true o (aY aM aP) (eI aM aP))) ?_ ?_;rotate_left
 ·rintro r hs ⟨o,rfl,h⟩;exact⟨_,bU.MS 1 h,o,rfl,rfl⟩
 refine OE _ (aM:Int) (aP:Int) ?_;unfold HI;intro b0 b1;have l1:=qL aM;have l2:=qL aP;have n1:=uc aM;have n2:=uc aP;have hz:=Yg ⟨jE aM,n1⟩;have JI:=M7 ⟨jE aM,n1⟩ ⟨jE aP,n2⟩;simp only at hz JI;have fin: ∀v3:V1,some (au true 5 1 v3.v (1+hb aM+hb aP) (aK (1+hb aM+hb aP) [aJ .u8 1 (aA (ao (aA (fun _=>((jE aM:Nat):Int)) 1 (hb aM) fun j=>((be (hb aM) aM j:Nat):Int)) 0 ((jE aM*16+jE aP:Nat):Int)) (1+hb aM) (hb aP) (fun j=>((be (hb aP) aP j:Nat):Int)))]))=some (al true v3 (aY aM aP) (eI aM aP)):=fun v3=>by
  unfold al aY;rw [cm fun j hj=>G6 aM aP j hj]
 refine⟨_,gG aM hk,?_⟩;rintro x hs ⟨v0,rfl,rfl⟩;refine⟨v0,(hb aM:Nat),fun j=>(be (hb aM) aM j:Nat),rfl,rfl,by omega,fun _=>⟨fun h1=>?_,fun h1=>?_⟩⟩
 ·have e1:=SW (n:=aM) (by omega)
  iterate 3 refine⟨by omega,fun _=>?_⟩
  intro v1;refine⟨_,gG aP hc,?_⟩;rintro x hs ⟨v2,rfl,rfl⟩;refine⟨v2,(hb aP:Nat),fun j=>(be (hb aP) aP j:Nat),rfl,rfl,by omega,fun _=>⟨fun h2=>?_,fun h2=>?_⟩⟩
  ·have e2:=SW (n:=aP) (by omega)
   iterate 5 refine⟨by omega,fun _=>?_⟩
   intro v3;refine⟨v3,rfl,?_⟩;rw [e1,e2,hz,←fin v3];have t:ag ((1:Int)+((hb aM:Nat):Int)+((hb aP:Nat):Int))=1+hb aM+hb aP:=by omega
   have t1:ag ((1:Int)+((hb aM:Nat):Int))=1+hb aM:=by omega
   have sp:aA (fun _=>((jE aM:Nat):Int)) 1 (ag ((hb aM:Nat):Int)) (fun j=>((be (hb aM) aM j:Nat):Int)) 0=((jE aM:Nat):Int):=rfl;show some (au true 5 1 v3.v (ag ((1:Int)+((hb aM:Nat):Int)+((hb aP:Nat):Int))) _)=_;rw [t,t1,sp,JI];rfl
  ·have e2:=SX (n:=aP) (by omega) hc
   iterate 3 refine⟨by omega,fun _=>?_⟩
   intro v3;refine⟨v3,rfl,?_⟩;rw [e1,e2,hz,←fin v3];have t:ag ((1:Int)+((hb aM:Nat):Int)+((hb aP:Nat):Int))=1+hb aM+hb aP:=by omega
   have t1:ag ((1:Int)+((hb aM:Nat):Int))=1+hb aM:=by omega
   have sp:aA (fun _=>((jE aM:Nat):Int)) 1 (ag ((hb aM:Nat):Int)) (fun j=>((be (hb aM) aM j:Nat):Int)) 0=((jE aM:Nat):Int):=rfl;show some (au true 5 1 v3.v (ag ((1:Int)+((hb aM:Nat):Int)+((hb aP:Nat):Int))) _)=_;rw [t,t1,sp,JI];rfl
 ·have e1:=SX (n:=aM) (by omega) hk;refine⟨by omega,fun _=>?_⟩;intro v1;refine⟨_,gG aP hc,?_⟩;rintro x hs ⟨v2,rfl,rfl⟩;refine⟨v2,(hb aP:Nat),fun j=>(be (hb aP) aP j:Nat),rfl,rfl,by omega,fun _=>⟨fun h2=>?_,fun h2=>?_⟩⟩
  ·have e2:=SW (n:=aP) (by omega)
   iterate 5 refine⟨by omega,fun _=>?_⟩
   intro v3;refine⟨v3,rfl,?_⟩;rw [e1,e2,hz,←fin v3];have t:ag ((1:Int)+((hb aM:Nat):Int)+((hb aP:Nat):Int))=1+hb aM+hb aP:=by omega
   have t1:ag ((1:Int)+((hb aM:Nat):Int))=1+hb aM:=by omega
   have sp:aA (fun _=>((jE aM:Nat):Int)) 1 (ag ((hb aM:Nat):Int)) (fun j=>((be (hb aM) aM j:Nat):Int)) 0=((jE aM:Nat):Int):=rfl;show some (au true 5 1 v3.v (ag ((1:Int)+((hb aM:Nat):Int)+((hb aP:Nat):Int))) _)=_;rw [t,t1,sp,JI];rfl
  ·have e2:=SX (n:=aP) (by omega) hc
   iterate 3 refine⟨by omega,fun _=>?_⟩
   intro v3;refine⟨v3,rfl,?_⟩;rw [e1,e2,hz,←fin v3];have t:ag ((1:Int)+((hb aM:Nat):Int)+((hb aP:Nat):Int))=1+hb aM+hb aP:=by omega
   have t1:ag ((1:Int)+((hb aM:Nat):Int))=1+hb aM:=by omega
   have sp:aA (fun _=>((jE aM:Nat):Int)) 1 (ag ((hb aM:Nat):Int)) (fun j=>((be (hb aM) aM j:Nat):Int)) 0=((jE aM:Nat):Int):=rfl;show some (au true 5 1 v3.v (ag ((1:Int)+((hb aM:Nat):Int)+((hb aP:Nat):Int))) _)=_;rw [t,t1,sp,JI];rfl
theorem qh{B:List HP}(aM aP:Nat)(hk:aM<18446744073709551616)(hc:aP<18446744073709551616):ar adE 17 [.agg #[.int .u64 (aM:Int),.int .u64 (aP:Int)]] B fun r hs=> ∃o:V1,r=o.v∧hs=B++[al true o (aY aM aP) (eI aM aP)]:=
 j5 (uf aM aP hk hc) (by simp)
end Go.RX.Fm
