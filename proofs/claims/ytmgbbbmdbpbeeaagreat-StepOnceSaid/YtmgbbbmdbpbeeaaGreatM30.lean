/- MACs exactly. -/
import Derived.Test.YtmgbbbmdbpbeeaaGreatM29
open Go.IntKind renaming wrap → ae
open Go.Proofs.Tryz renaming prog → aiT
open Int renaming toNat → ag, toNat_natCast → aiX
open List renaming append → aiL, getD_cons_zero → ah, mem_cons → ai0, not_mem_nil → aiZ, range → ajw
open List.cons renaming injEq → ai5
open Nat renaming lt_of_lt_of_le → ai1
namespace Go.RX.Fq
open Go Go.RX Go.Proofs Go.RX.Sh Go.RX.Fg Go.RX.Fj Go.RX.Fk Go.RX.Fm
def je(n:Nat)(T:Nat→Int)(w:Nat)(j:Nat):Int:=if j<n then ak .aB .u8 (w:Int) (T j)else(w:Int)
theorem JP{B:List HP}{x:Value}(hx:x.oneCell'=true)(w:Nat)(h:ar B (aH x 1 fun _=>w)):ax aiT 118 [x,.int .i64 64] B fun r hs=> ∃o:V1,r=o.v∧hs=B++[bn true o 64 fun _=>(w:Int)]:=Fm.tQ hx w h
theorem AB(v0:V1)(A0:Nat→Int):ax aiT 118 [v0.v,.int .i64 128] [bn false v0 1 A0] fun r hs=> ∃(o:V1) (N:Nat→Int),(N=fun _=>A0 0)∧r=o.v∧hs=[bn true o 128 N]:=by
 refine ax.post (p:=fun r hs=> ∃(v:V1) (F:Nat→Int),(∀j,j<128→F j=A0 0)∧r=aC 1 v.v 0 128 (some 128)∧hs=[bn true v 128 F]) ?_ ?_;rotate_left
 ·rintro r hs ⟨v,F,hF,rfl,rfl⟩;refine⟨_,bL.part (m:=128) (mx:=some 128) (Nat.le_refl _) (fun x hx=>by cases hx;omega) (by decide),⟨_,aX 1 v.v 0 128 (some 128)⟩,_,rfl,rfl,?_⟩;rw [bJ hF,iH,dv .u8 128 128 _ (Nat.le_refl _)];unfold bn;rw [iH]
 refine CM _ A0 v0 ?_;unfold tM;refine⟨_,Fv 128 (by decide),?_⟩;rintro x hs ⟨v1,A1,rfl,rfl⟩;refine⟨v1,128,A1,rfl,rfl,by omega,fun _=>⟨v1,_,?_,rfl,rfl⟩⟩;refine fk 64 (fk 32 (fk 16 (fk 8 (fk 4 (fk 2 (fk 1 fun j hj=>?_))))));have:j=0:=by omega
 subst this;rfl
theorem FK{B:List HP}{x:Value}(hx:x.oneCell'=true)(w:Nat)(h:ar B (aH x 1 fun _=>w)):ax aiT 118 [x,.int .i64 128] B fun r hs=> ∃o:V1,r=o.v∧hs=B++[bn true o 128 fun _=>(w:Int)]:=by
 refine ax.post (CU (Q:=fun N=>N=fun _=>(w:Int)) (AB ⟨x,hx⟩ fun _=>(w:Int)) (iB h)) ?_;rintro r hs ⟨o,N,hN,hr,rfl⟩;subst hN;exact⟨_,bL.refl _,o,hr,rfl⟩
theorem R8(v0:V1)(n:Nat)(hn:n≤64)(T:Nat→Int)(w:Nat):ax aiT 97 [.int .u8 1,v0.v,.int .u8 (w:Int)] [bn false v0 n T] fun r hs=> ∃(o:V1) (N:Nat→Int),N=je n T w∧r=o.v∧hs=[bn true o 64 N]:=by
 refine ax.post (p:=fun r hs=> ∃(o:V1) (N:Nat→Int),(∀j,j<64→N j=je n T w j)∧r=o.v∧hs=[bn true o 64 N]) ?_ ?_;rotate_left
 ·rintro r hs ⟨o,N,hN,rfl,rfl⟩;exact⟨_,bL.refl _,o,_,rfl,rfl,by unfold bn;rw [bJ hN]⟩
 refine OQ _ (w:Int) (n:Int) T v0 ?_;unfold E4;refine⟨by omega,fun _=>⟨fun h=>absurd h (by omega),fun _=>?_⟩⟩;intro b0;refine⟨_,JP (B:=[al b0 true [.int .u8 (w:Int)]]) rfl w (ar.block (b:=b0) (n:=1) (m:=1) (wr:=true) (A:=fun _=>(w:Int)) (T:=fun _=>w) (fun _ _=>rfl) (Nat.le_refl _)),?_⟩;rintro x hs ⟨v1,rfl,rfl⟩;refine⟨v1,64,fun _=>(w:Int),rfl,rfl,?_⟩;refine⟨fun e=> ∃i:Nat,i≤n∧e.i=[(i:Int)]∧∀j,j<64→(e.a.getD 0 fun _=>0) j=je i T w j,fun e=>((n:Int) - e.i.getD 0 0).toNat,⟨0,_,rfl,fun _ _=>rfl,0,by omega,rfl,fun j _=>by unfold je;rw [if_neg (by omega)];rfl⟩,?_⟩;rintro x2 A2 ⟨i,hi,hx,hA⟩;simp only [ai5,and_true]at hx;subst hx;simp only [ah]at hA;refine⟨fun bX=>?_,fun jI=>?_⟩
 ·iterate 4 refine⟨by omega,fun _=>?_⟩
  refine⟨_,_,rfl,fun _ _=>rfl,⟨i+1,by omega,rfl,fun j hj=>?_⟩,?_⟩
  ·simp only [ah];rw [aiX];unfold au;by_cases e:j=i
   ·subst e;rw [if_pos rfl,hA j hj];unfold je;rw [if_neg (by omega),if_pos (by omega)]
   ·rw [if_neg e,hA j hj];unfold je;by_cases c:j<i
    ·rw [if_pos c,if_pos (by omega)]
    ·rw [if_neg c,if_neg (by omega)]
  ·simp only [ah];omega
 ·have:i=n:=by omega
  subst this;exact⟨v1,A2,hA,rfl,rfl⟩
theorem FM{B:List HP}{x:Value}(hx:x.oneCell'=true)(n:Nat)(hn:n≤64)(T:Nat→Int)(w:Nat)(h:ar B (vw x n T)):ax aiT 97 [.int .u8 1,x,.int .u8 (w:Int)] B fun r hs=> ∃(o:V1) (N:Nat→Int),N=je n T w∧r=o.v∧hs=B++[bn true o 64 N]:=
 CU (Q:=fun N=>N=je n T w) (R8 ⟨x,hx⟩ n hn T w) (iB h)
theorem FN(w:Nat):ax aiT 97 [.int .u8 1,.slice none 0 0,.int .u8 (w:Int)] [] fun r hs=> ∃(o:V1) (N:Nat→Int),N=je 0 (fun _=>0) w∧r=o.v∧hs=[bn true o 64 N]:=by
 refine ax.post (p:=fun r hs=> ∃(o:V1) (N:Nat→Int),(∀j,j<64→N j=je 0 (fun _=>0) w j)∧r=o.v∧hs=[bn true o 64 N]) ?_ ?_;rotate_left
 ·rintro r hs ⟨o,N,hN,rfl,rfl⟩;exact⟨_,bL.refl _,o,_,rfl,rfl,by unfold bn;rw [bJ hN]⟩
 refine LB _ (w:Int) ?_;unfold Bt;intro b0;refine⟨_,JP (B:=[al b0 true [.int .u8 (w:Int)]]) rfl w (ar.block (b:=b0) (n:=1) (m:=1) (wr:=true) (A:=fun _=>(w:Int)) (T:=fun _=>w) (fun _ _=>rfl) (Nat.le_refl _)),?_⟩;rintro x hs ⟨v1,rfl,rfl⟩;refine⟨v1,64,fun _=>(w:Int),rfl,rfl,?_⟩;refine⟨fun e=>e.i=[0]∧∀j,j<64→(e.a.getD 0 fun _=>0) j=(w:Int),fun _=>0,⟨0,_,rfl,fun _ _=>rfl,rfl,fun _ _=>rfl⟩,?_⟩;rintro x2 A2 ⟨hx,hA⟩;simp only [ai5,and_true]at hx;subst hx;exact⟨fun h=>absurd h (by decide),fun _=>⟨v1,A2,fun j hj=>by unfold je;rw [if_neg (by omega)];exact hA j hj,rfl,rfl⟩⟩
theorem R9(v0:V1)(n:Nat)(hn:n≤128)(T:Nat→Int)(w:Nat):ax aiT 97 [.int .u8 2,v0.v,.int .u8 (w:Int)] [bn false v0 n T] fun r hs=> ∃(o:V1) (N:Nat→Int),N=je n T w∧r=o.v∧hs=[bn true o 128 N]:=by
 refine ax.post (p:=fun r hs=> ∃(o:V1) (N:Nat→Int),(∀j,j<128→N j=je n T w j)∧r=o.v∧hs=[bn true o 128 N]) ?_ ?_;rotate_left
 ·rintro r hs ⟨o,N,hN,rfl,rfl⟩;exact⟨_,bL.refl _,o,_,rfl,rfl,by unfold bn;rw [bJ hN]⟩
 refine OR _ (w:Int) (n:Int) T v0 ?_;unfold E5;refine⟨by omega,fun _=>⟨fun h=>absurd h (by omega),fun _=>?_⟩⟩;intro b0;refine⟨_,FK (B:=[al b0 true [.int .u8 (w:Int)]]) rfl w (ar.block (b:=b0) (n:=1) (m:=1) (wr:=true) (A:=fun _=>(w:Int)) (T:=fun _=>w) (fun _ _=>rfl) (Nat.le_refl _)),?_⟩;rintro x hs ⟨v1,rfl,rfl⟩;refine⟨v1,128,fun _=>(w:Int),rfl,rfl,?_⟩;refine⟨fun e=> ∃i:Nat,i≤n∧e.i=[(i:Int)]∧∀j,j<128→(e.a.getD 0 fun _=>0) j=je i T w j,fun e=>((n:Int) - e.i.getD 0 0).toNat,⟨0,_,rfl,fun _ _=>rfl,0,by omega,rfl,fun j _=>by unfold je;rw [if_neg (by omega)];rfl⟩,?_⟩;rintro x2 A2 ⟨i,hi,hx,hA⟩;simp only [ai5,and_true]at hx;subst hx;simp only [ah]at hA;refine⟨fun bX=>?_,fun jI=>?_⟩
 ·iterate 4 refine⟨by omega,fun _=>?_⟩
  refine⟨_,_,rfl,fun _ _=>rfl,⟨i+1,by omega,rfl,fun j hj=>?_⟩,?_⟩
  ·simp only [ah];rw [aiX];unfold au;by_cases e:j=i
   ·subst e;rw [if_pos rfl,hA j hj];unfold je;rw [if_neg (by omega),if_pos (by omega)]
   ·rw [if_neg e,hA j hj];unfold je;by_cases c:j<i
    ·rw [if_pos c,if_pos (by omega)]
    ·rw [if_neg c,if_neg (by omega)]
  ·simp only [ah];omega
 ·have:i=n:=by omega
  subst this;exact⟨v1,A2,hA,rfl,rfl⟩
theorem FO{B:List HP}{x:Value}(hx:x.oneCell'=true)(n:Nat)(hn:n≤128)(T:Nat→Int)(w:Nat)(h:ar B (vw x n T)):ax aiT 97 [.int .u8 2,x,.int .u8 (w:Int)] B fun r hs=> ∃(o:V1) (N:Nat→Int),N=je n T w∧r=o.v∧hs=B++[bn true o 128 N]:=
 CU (Q:=fun N=>N=je n T w) (R9 ⟨x,hx⟩ n hn T w) (iB h)
theorem FP(w:Nat):ax aiT 97 [.int .u8 2,.slice none 0 0,.int .u8 (w:Int)] [] fun r hs=> ∃(o:V1) (N:Nat→Int),N=je 0 (fun _=>0) w∧r=o.v∧hs=[bn true o 128 N]:=by
 refine ax.post (p:=fun r hs=> ∃(o:V1) (N:Nat→Int),(∀j,j<128→N j=je 0 (fun _=>0) w j)∧r=o.v∧hs=[bn true o 128 N]) ?_ ?_;rotate_left
 ·rintro r hs ⟨o,N,hN,rfl,rfl⟩;exact⟨_,bL.refl _,o,_,rfl,rfl,by unfold bn;rw [bJ hN]⟩
 refine LD _ (w:Int) ?_;unfold Bu;intro b0;refine⟨_,FK (B:=[al b0 true [.int .u8 (w:Int)]]) rfl w (ar.block (b:=b0) (n:=1) (m:=1) (wr:=true) (A:=fun _=>(w:Int)) (T:=fun _=>w) (fun _ _=>rfl) (Nat.le_refl _)),?_⟩;rintro x hs ⟨v1,rfl,rfl⟩;refine⟨v1,128,fun _=>(w:Int),rfl,rfl,?_⟩;refine⟨fun e=>e.i=[0]∧∀j,j<128→(e.a.getD 0 fun _=>0) j=(w:Int),fun _=>0,⟨0,_,rfl,fun _ _=>rfl,rfl,fun _ _=>rfl⟩,?_⟩;rintro x2 A2 ⟨hx,hA⟩;simp only [ai5,and_true]at hx;subst hx;exact⟨fun h=>absurd h (by decide),fun _=>⟨v1,A2,fun j hj=>by unfold je;rw [if_neg (by omega)];exact hA j hj,rfl,rfl⟩⟩
def zA(nk:Nat)(K:Nat→Int)(n:Nat)(M:Nat→Int):Nat→Int:=oN (64+32) (cf 64 (je nk K 92) (oN (64+n) (cf 64 (je nk K 54) M)))
theorem O7(nk:Nat)(K:Nat→Int)(n:Nat)(M:Nat→Int):WV (zA nk K n M):=zo _ _
theorem HY{nk:Nat}{K:Nat→Int}{n:Nat}{M M':Nat→Int}(h: ∀j,j<n→M j=M' j):zA nk K n M=zA nk K n M':=by
 unfold zA;rw [zp (n:=64+n) (M:=cf 64 (je nk K 54) M) (M':=cf 64 (je nk K 54) M')];intro j hj;unfold cf;split
 ·rfl
 ·exact h _ (by omega)
set_option maxHeartbeats 1000000 in
theorem O8(b1:Nat)(w0:V1)(n0:Nat)(T0:Nat→Int)(hl:n0+900≤140737488355328):ax aiT 64 [.int .u8 1,.slice none 0 0,.slice (some ⟨b1,0,none⟩) 1 1] [al b1 true [w0.v],bn false w0 n0 T0] fun r hs=> ∃(o:V1) (N:Nat→Int),N=zA 0 (fun _=>0) n0 T0∧r=o.v∧hs=[al b1 true [w0.v]]++[bn true o 32 N]:=by
 refine E6 _ (n0:Int) T0 w0 b1 ?_;unfold v_;refine⟨_,FN 54,?_⟩;rintro x hs ⟨v7,N1,h1,rfl,rfl⟩;refine⟨v7,64,N1,rfl,rfl,?_⟩;intro b2 v8;refine⟨_,FG (B:=[bn true v7 64 N1,bn false w0 n0 T0]) v8 v7.one w0.one 64 n0 N1 T0 (by omega) (ar.dD 0 rfl) (ar.dD 1 rfl),?_⟩;rintro x hs ⟨v9,N2,h2,rfl,rfl⟩;refine⟨v9,32,N2,rfl,rfl,?_⟩;refine⟨_,FN 92,?_⟩;rintro x hs ⟨v10,N3,h3,rfl,rfl⟩;refine⟨v10,64,N3,rfl,rfl,?_⟩;intro b3;refine⟨_,wu (B:=[bn true v10 64 N3,bn true v9 32 N2]) b3 v10.one v9.one 64 32 N3 N2 (by omega) (ar.dD 0 rfl) (ar.dD 1 rfl),?_⟩;rintro x hs ⟨v11,N4,h4,rfl,rfl⟩;exact⟨v11,32,N4,rfl,rfl,v11,N4,by rw [h4,h3,h2,h1];rfl,rfl,rfl⟩
set_option maxHeartbeats 1000000 in
theorem R_(b1:Nat)(w0 w1 w2 vk:V1)(n0 n1 n2 nk:Nat)(T0 T1 T2 TK:Nat→Int)(hk:nk≤64)(hl:n0+n1+n2+900≤140737488355328):ax aiT 64 [.int .u8 1,vk.v,.slice (some ⟨b1,0,none⟩) 3 3] [al b1 true [w0.v,w1.v,w2.v],bn false w0 n0 T0,bn false w1 n1 T1,bn false w2 n2 T2,bn false vk nk TK] fun r hs=> ∃(o:V1) (N:Nat→Int),N=zA nk TK (n0+n1+n2) (cf n0 T0 (cf n1 T1 T2))∧r=o.v∧hs=[al b1 true [w0.v,w1.v,w2.v]]++[bn true o 32 N]:=by
 refine HD _ (n0:Int) (n1:Int) (n2:Int) (nk:Int) T0 T1 T2 TK w0 w1 w2 vk b1 ?_;unfold zi;refine⟨_,FM (B:=[bn false vk nk TK]) vk.one nk hk TK 54 (ar.dD 0 rfl),?_⟩;rintro x hs ⟨v7,N1,h1,rfl,rfl⟩;refine⟨v7,64,N1,rfl,rfl,?_⟩;intro b2 v8;refine⟨_,FH (B:=[bn true v7 64 N1,bn false w0 n0 T0,bn false w1 n1 T1,bn false w2 n2 T2]) v8 v7.one w0.one w1.one w2.one 64 n0 n1 n2 N1 T0 T1 T2 (by omega) (ar.dD 0 rfl) (ar.dD 1 rfl) (ar.dD 2 rfl) (ar.dD 3 rfl),?_⟩;rintro x hs ⟨v9,N2,h2,rfl,rfl⟩;refine⟨v9,32,N2,rfl,rfl,?_⟩;refine⟨_,FM (B:=[bn false vk nk TK]) vk.one nk hk TK 92 (ar.dD 0 rfl),?_⟩;rintro x hs ⟨v10,N3,h3,rfl,rfl⟩;refine⟨v10,64,N3,rfl,rfl,?_⟩;intro b3;refine⟨_,wu (B:=[bn true v10 64 N3,bn true v9 32 N2]) b3 v10.one v9.one 64 32 N3 N2 (by omega) (ar.dD 0 rfl) (ar.dD 1 rfl),?_⟩;rintro x hs ⟨v11,N4,h4,rfl,rfl⟩;exact⟨v11,32,N4,rfl,rfl,v11,N4,by rw [h4,h3,h2,h1,Nat.add_assoc,Nat.add_assoc,←Nat.add_assoc n0];rfl,rfl,rfl⟩
theorem O9{B:List HP}(b1:Nat){x0 x1 x2 xk:Value}(h0:x0.oneCell'=true)(h1:x1.oneCell'=true)(h2:x2.oneCell'=true)(hx:xk.oneCell'=true)(n0 n1 n2 nk:Nat)(T0 T1 T2 TK:Nat→Int)(hk:nk≤64)(hl:n0+n1+n2+900≤140737488355328)(g0:ar B (vw x0 n0 T0))(g1:ar B (vw x1 n1 T1))(g2:ar B (vw x2 n2 T2))(gk:ar B (vw xk nk TK)):
  ax aiT 64 [.int .u8 1,xk,.slice (some ⟨b1,0,none⟩) 3 3] ([al b1 true [x0,x1,x2]]++B) fun r hs=> ∃(o:V1) (N:Nat→Int),N=zA nk TK (n0+n1+n2) (cf n0 T0 (cf n1 T1 T2))∧r=o.v∧hs=[al b1 true [x0,x1,x2]]++B++[bn true o 32 N]:=
 zx (A:=[al b1 true [x0,x1,x2]]) (L:=[vw x0 n0 T0,vw x1 n1 T1,vw x2 n2 T2,vw xk nk TK]) (Q:=fun N=>N=zA nk TK (n0+n1+n2) (cf n0 T0 (cf n1 T1 T2))) (R_ b1 ⟨x0,h0⟩ ⟨x1,h1⟩ ⟨x2,h2⟩ ⟨xk,hx⟩ n0 n1 n2 nk T0 T1 T2 TK hk hl) (iB rfl) (YQ g0 g1 g2 gk)
theorem LW{B:List HP}(b1:Nat){x0:Value}(h0:x0.oneCell'=true)(n0:Nat)(T0:Nat→Int)(hl:n0+900≤140737488355328)(g0:ar B (vw x0 n0 T0)):
  ax aiT 64 [.int .u8 1,.slice none 0 0,.slice (some ⟨b1,0,none⟩) 1 1] ([al b1 true [x0]]++B) fun r hs=> ∃(o:V1) (N:Nat→Int),N=zA 0 (fun _=>0) n0 T0∧r=o.v∧hs=[al b1 true [x0]]++B++[bn true o 32 N]:=
 zx (A:=[al b1 true [x0]]) (L:=[vw x0 n0 T0]) (Q:=fun N=>N=zA 0 (fun _=>0) n0 T0) (O8 b1 ⟨x0,h0⟩ n0 T0 hl) (iB rfl) (iB g0)
def zB(nk:Nat)(K:Nat→Int)(n:Nat)(M:Nat→Int):Nat→Int:=qi (128+64) (cf 128 (je nk K 92) (qi (128+n) (cf 128 (je nk K 54) M)))
theorem O_(nk:Nat)(K:Nat→Int)(n:Nat)(M:Nat→Int):WV (zB nk K n M):=O5 _ _
theorem HZ{nk:Nat}{K:Nat→Int}{n:Nat}{M M':Nat→Int}(h: ∀j,j<n→M j=M' j):zB nk K n M=zB nk K n M':=by
 unfold zB;rw [HX (n:=128+n) (M:=cf 128 (je nk K 54) M) (M':=cf 128 (je nk K 54) M')];intro j hj;unfold cf;split
 ·rfl
 ·exact h _ (by omega)
set_option maxHeartbeats 1000000 in
theorem Pa(b1:Nat)(w0:V1)(n0:Nat)(T0:Nat→Int)(hl:n0+900≤140737488355328):ax aiT 64 [.int .u8 2,.slice none 0 0,.slice (some ⟨b1,0,none⟩) 1 1] [al b1 true [w0.v],bn false w0 n0 T0] fun r hs=> ∃(o:V1) (N:Nat→Int),N=zB 0 (fun _=>0) n0 T0∧r=o.v∧hs=[al b1 true [w0.v]]++[bn true o 64 N]:=by
 refine E7 _ (n0:Int) T0 w0 b1 ?_;unfold we;refine⟨_,FP 54,?_⟩;rintro x hs ⟨v7,N1,h1,rfl,rfl⟩;refine⟨v7,128,N1,rfl,rfl,?_⟩;intro b2 v8;refine⟨_,FI (B:=[bn true v7 128 N1,bn false w0 n0 T0]) v8 v7.one w0.one 128 n0 N1 T0 (by omega) (ar.dD 0 rfl) (ar.dD 1 rfl),?_⟩;rintro x hs ⟨v9,N2,h2,rfl,rfl⟩;refine⟨v9,64,N2,rfl,rfl,?_⟩;refine⟨_,FP 92,?_⟩;rintro x hs ⟨v10,N3,h3,rfl,rfl⟩;refine⟨v10,128,N3,rfl,rfl,?_⟩;intro b3;refine⟨_,wv (B:=[bn true v10 128 N3,bn true v9 64 N2]) b3 v10.one v9.one 128 64 N3 N2 (by omega) (ar.dD 0 rfl) (ar.dD 1 rfl),?_⟩;rintro x hs ⟨v11,N4,h4,rfl,rfl⟩;exact⟨v11,64,N4,rfl,rfl,v11,N4,by rw [h4,h3,h2,h1];rfl,rfl,rfl⟩
set_option maxHeartbeats 1000000 in
theorem Sa(b1:Nat)(w0 w1 w2 vk:V1)(n0 n1 n2 nk:Nat)(T0 T1 T2 TK:Nat→Int)(hk:nk≤128)(hl:n0+n1+n2+900≤140737488355328):ax aiT 64 [.int .u8 2,vk.v,.slice (some ⟨b1,0,none⟩) 3 3] [al b1 true [w0.v,w1.v,w2.v],bn false w0 n0 T0,bn false w1 n1 T1,bn false w2 n2 T2,bn false vk nk TK] fun r hs=> ∃(o:V1) (N:Nat→Int),N=zB nk TK (n0+n1+n2) (cf n0 T0 (cf n1 T1 T2))∧r=o.v∧hs=[al b1 true [w0.v,w1.v,w2.v]]++[bn true o 64 N]:=by
 refine HE _ (n0:Int) (n1:Int) (n2:Int) (nk:Int) T0 T1 T2 TK w0 w1 w2 vk b1 ?_;unfold zj;refine⟨_,FO (B:=[bn false vk nk TK]) vk.one nk hk TK 54 (ar.dD 0 rfl),?_⟩;rintro x hs ⟨v7,N1,h1,rfl,rfl⟩;refine⟨v7,128,N1,rfl,rfl,?_⟩;intro b2 v8;refine⟨_,FJ (B:=[bn true v7 128 N1,bn false w0 n0 T0,bn false w1 n1 T1,bn false w2 n2 T2]) v8 v7.one w0.one w1.one w2.one 128 n0 n1 n2 N1 T0 T1 T2 (by omega) (ar.dD 0 rfl) (ar.dD 1 rfl) (ar.dD 2 rfl) (ar.dD 3 rfl),?_⟩;rintro x hs ⟨v9,N2,h2,rfl,rfl⟩;refine⟨v9,64,N2,rfl,rfl,?_⟩;refine⟨_,FO (B:=[bn false vk nk TK]) vk.one nk hk TK 92 (ar.dD 0 rfl),?_⟩;rintro x hs ⟨v10,N3,h3,rfl,rfl⟩;refine⟨v10,128,N3,rfl,rfl,?_⟩;intro b3;refine⟨_,wv (B:=[bn true v10 128 N3,bn true v9 64 N2]) b3 v10.one v9.one 128 64 N3 N2 (by omega) (ar.dD 0 rfl) (ar.dD 1 rfl),?_⟩;rintro x hs ⟨v11,N4,h4,rfl,rfl⟩;exact⟨v11,64,N4,rfl,rfl,v11,N4,by rw [h4,h3,h2,h1,Nat.add_assoc,Nat.add_assoc,←Nat.add_assoc n0];rfl,rfl,rfl⟩
theorem Pb{B:List HP}(b1:Nat){x0 x1 x2 xk:Value}(h0:x0.oneCell'=true)(h1:x1.oneCell'=true)(h2:x2.oneCell'=true)(hx:xk.oneCell'=true)(n0 n1 n2 nk:Nat)(T0 T1 T2 TK:Nat→Int)(hk:nk≤128)(hl:n0+n1+n2+900≤140737488355328)(g0:ar B (vw x0 n0 T0))(g1:ar B (vw x1 n1 T1))(g2:ar B (vw x2 n2 T2))(gk:ar B (vw xk nk TK)):
  ax aiT 64 [.int .u8 2,xk,.slice (some ⟨b1,0,none⟩) 3 3] ([al b1 true [x0,x1,x2]]++B) fun r hs=> ∃(o:V1) (N:Nat→Int),N=zB nk TK (n0+n1+n2) (cf n0 T0 (cf n1 T1 T2))∧r=o.v∧hs=[al b1 true [x0,x1,x2]]++B++[bn true o 64 N]:=
 zx (A:=[al b1 true [x0,x1,x2]]) (L:=[vw x0 n0 T0,vw x1 n1 T1,vw x2 n2 T2,vw xk nk TK]) (Q:=fun N=>N=zB nk TK (n0+n1+n2) (cf n0 T0 (cf n1 T1 T2))) (Sa b1 ⟨x0,h0⟩ ⟨x1,h1⟩ ⟨x2,h2⟩ ⟨xk,hx⟩ n0 n1 n2 nk T0 T1 T2 TK hk hl) (iB rfl) (YQ g0 g1 g2 gk)
theorem LX{B:List HP}(b1:Nat){x0:Value}(h0:x0.oneCell'=true)(n0:Nat)(T0:Nat→Int)(hl:n0+900≤140737488355328)(g0:ar B (vw x0 n0 T0)):
  ax aiT 64 [.int .u8 2,.slice none 0 0,.slice (some ⟨b1,0,none⟩) 1 1] ([al b1 true [x0]]++B) fun r hs=> ∃(o:V1) (N:Nat→Int),N=zB 0 (fun _=>0) n0 T0∧r=o.v∧hs=[al b1 true [x0]]++B++[bn true o 64 N]:=
 zx (A:=[al b1 true [x0]]) (L:=[vw x0 n0 T0]) (Q:=fun N=>N=zB 0 (fun _=>0) n0 T0) (Pa b1 ⟨x0,h0⟩ n0 T0 hl) (iB rfl) (iB g0)
end Go.RX.Fq

namespace Go.Hd
open Go.Gh
def dg(n:Nat):Nat:=
 if n=0 then 0 else if n<256 then 1 else if n<65536 then 2 else if n<16777216 then 3 else if n<4294967296 then 4 else if n<1099511627776 then 5
 else if n<281474976710656 then 6 else if n<72057594037927936 then 7 else 8
theorem JQ(n:Nat):dg n≤8:=by
 unfold dg
 repeat (first | omega | split)
theorem Sb(m c:Nat)(hc:c<256)(hm:m<72057594037927936)(h:m*256+c≠0):dg (m*256+c)=dg m+1:=by
 unfold dg;rw [if_neg h];by_cases h0:m=0
 ·rw [if_pos h0,if_pos (by omega)]
 rw [if_neg h0,if_neg (by omega)];by_cases h1:m<256
 ·rw [if_pos h1,if_pos (by omega)]
 rw [if_neg h1,if_neg (by omega)];by_cases h2:m<65536
 ·rw [if_pos h2,if_pos (by omega)]
 rw [if_neg h2,if_neg (by omega)];by_cases h3:m<16777216
 ·rw [if_pos h3,if_pos (by omega)]
 rw [if_neg h3,if_neg (by omega)];by_cases h4:m<4294967296
 ·rw [if_pos h4,if_pos (by omega)]
 rw [if_neg h4,if_neg (by omega)];by_cases h5:m<1099511627776
 ·rw [if_pos h5,if_pos (by omega)]
 rw [if_neg h5,if_neg (by omega)];by_cases h6:m<281474976710656
 ·rw [if_pos h6,if_pos (by omega)]
 rw [if_neg h6,if_neg (by omega),if_pos hm]
theorem CV:dg 0=0:=rfl
theorem H2{n:Nat}(h:n≠0):0<dg n:=by
 unfold dg;rw [if_neg h]
 repeat (first | omega | split)
def be(k n j:Nat):Nat:=n/256^(k - 1 - j)%256
theorem Y2(k n j:Nat):be k n j<256:=Nat.mod_lt _ (by decide)
theorem JR(k m c j:Nat)(hc:c<256)(hj:j<k+1):be (k+1) (m*256+c) j=if j<k then be k m j else c:=by
 unfold be;split
 ·rename_i h;rw [show k+1 - 1 - j=(k - 1 - j)+1 by omega,Nat.pow_succ,Nat.mul_comm (256^_) 256,←Nat.div_div_eq_div_mul,show(m*256+c)/256=m by omega]
 ·rename_i h;rw [show k+1 - 1 - j=0 by omega,Nat.pow_zero,Nat.div_one];omega
theorem H3(f:Nat→Nat)(hf: ∀j,f j<256): ∀k j,j<k→be k (ni f k) j=f j
 | k+1,j,hj=>by
  rw [ni,JR k (ni f k) (f k) j (hf k) hj];split
  ·rename_i h;exact H3 f hf k j h
  ·rw [show j=k by omega]
def hb(n:Nat):Nat:=if n<8 then 0 else dg n
def ik(n:Nat):Nat:=if n<8 then n else 7+dg n
theorem wz(n:Nat):hb n≤8:=by
 unfold hb;split
 ·omega
 ·exact JQ n
theorem qj(n:Nat):ik n<16:=by
 unfold ik;have:=JQ n;split<;>omega
def bS(aY br:Nat):Nat:=1+hb aY+hb br
def dM(aY br j:Nat):Nat:=if j=0 then ik aY*16+ik br else if j<1+hb aY then be (hb aY) aY (j - 1)else be (hb br) br (j - (1+hb aY))
theorem tT(aY br j:Nat):dM aY br j<256:=by
 unfold dM;have h1:=qj aY;have h2:=qj br;split
 ·omega
 split<;>exact Y2 _ _ _
theorem zC(aY br:Nat):bS aY br≤17:=by
 unfold bS;have:=wz aY;have:=wz br;omega
def nk(T:Nat→Nat):Nat:=if T 0/16<8 then 0 else T 0/16 - 7
def nc(T:Nat→Nat):Nat:=if T 0%16<8 then 0 else T 0%16 - 7
def bV(T:Nat→Nat):Nat:=if T 0/16<8 then T 0/16 else ni (fun j=>T (1+j)) (nk T)
def aZ(T:Nat→Nat):Nat:=if T 0%16<8 then T 0%16 else ni (fun j=>T (1+nk T+j)) (nc T)
def qk(n:Nat)(T:Nat→Nat):Prop:=1+nk T+nc T≤n∧hb (bV T)=nk T∧hb (aZ T)=nc T
theorem TR{T:Nat→Nat}(hT:T 0<256):nk T≤8:=by
 unfold nk;split<;>omega
theorem Pc(T:Nat→Nat):nc T≤8:=by
 unfold nc;split<;>omega
theorem JS{f:Nat→Nat}(hf: ∀j,f j<256){k:Nat}(hk:k≤8):ni f k<18446744073709551616:=
 ai1 (qb f hf k) (Nat.le_trans (Nat.pow_le_pow_right (by decide) hk) (by decide))
theorem Pd{T:Nat→Nat}(hT: ∀j,T j<256):bV T<18446744073709551616:=by
 unfold bV;split
 ·omega
 ·exact JS (fun j=>hT _) (TR (hT 0))
theorem CW{T:Nat→Nat}(hT: ∀j,T j<256):aZ T<18446744073709551616:=by
 unfold aZ;split
 ·omega
 ·exact JS (fun j=>hT _) (Pc T)
theorem ef{n:Nat}(h:n<8):hb n=0:=by unfold hb;rw [if_pos h]
theorem Sc{T:Nat→Nat}(h:hb (bV T)=nk T):ik (bV T)=T 0/16:=by
 by_cases c:T 0/16<8
 ·unfold bV;rw [if_pos c];unfold ik;rw [if_pos c]
 ·have hn:nk T=T 0/16 - 7:=by unfold nk;rw [if_neg c]
  have h8: ¬bV T<8:=fun h8=>by rw [ef h8]at h;omega
  unfold hb at h;rw [if_neg h8]at h;unfold ik;rw [if_neg h8];omega
theorem Sd{T:Nat→Nat}(h:hb (aZ T)=nc T):ik (aZ T)=T 0%16:=by
 by_cases c:T 0%16<8
 ·unfold aZ;rw [if_pos c];unfold ik;rw [if_pos c]
 ·have hn:nc T=T 0%16 - 7:=by unfold nc;rw [if_neg c]
  have h8: ¬aZ T<8:=fun h8=>by rw [ef h8]at h;omega
  unfold hb at h;rw [if_neg h8]at h;unfold ik;rw [if_neg h8];omega
theorem Pe{T:Nat→Nat}(hT: ∀j,T j<256):
  (bS (bV T) (aZ T)=1+nk T+nc T∧∀j,j<bS (bV T) (aZ T)→dM (bV T) (aZ T) j=T j)↔hb (bV T)=nk T∧hb (aZ T)=nc T:=by
 constructor
 ·rintro ⟨hl,EX⟩;have h0:=EX 0 (by unfold bS;omega);unfold dM at h0;rw [if_pos rfl]at h0;have n1:=qj (bV T);have n2:=qj (aZ T);have e1:ik (bV T)=T 0/16:=by omega
  have e2:ik (aZ T)=T 0%16:=by omega
  constructor
  ·by_cases c:T 0/16<8
   ·unfold bV nk;rw [if_pos c,if_pos c];exact ef c
   ·have h8: ¬bV T<8:=fun h8=>by unfold ik at e1;rw [if_pos h8]at e1;omega
    unfold ik at e1;rw [if_neg h8]at e1;unfold hb nk;rw [if_neg h8,if_neg c];omega
  ·by_cases c:T 0%16<8
   ·unfold aZ nc;rw [if_pos c,if_pos c];exact ef c
   ·have h8: ¬aZ T<8:=fun h8=>by unfold ik at e2;rw [if_pos h8]at e2;omega
    unfold ik at e2;rw [if_neg h8]at e2;unfold hb nc;rw [if_neg h8,if_neg c];omega
 ·rintro ⟨h1,h2⟩;refine⟨by unfold bS;omega,fun j hj=>?_⟩;unfold bS at hj;unfold dM;by_cases j0:j=0
  ·subst j0;rw [if_pos rfl,Sc h1,Sd h2];omega
  rw [if_neg j0,h1];by_cases c:j<1+nk T
  ·rw [if_pos c];have hk: ¬T 0/16<8:=fun h=>by unfold nk at c;rw [if_pos h]at c;omega
   have e:bV T=ni (fun j=>T (1+j)) (nk T):=by unfold bV;rw [if_neg hk]
   rw [e,H3 _ (fun j=>hT _) _ _ (by omega),show 1+(j - 1)=j by omega]
  ·rw [if_neg c,h2];have hk: ¬T 0%16<8:=fun h=>by
    have:nc T=0:=by unfold nc;rw [if_pos h]
    omega
   have e:aZ T=ni (fun j=>T (1+nk T+j)) (nc T):=by unfold aZ;rw [if_neg hk]
   rw [e,H3 _ (fun j=>hT _) _ _ (by omega),show 1+nk T+(j - (1+nk T))=j by omega]
def bu(S:Nat→Nat)(br j:Nat):Nat:=S j^^^(br/256^(11 - j)%256)
theorem u6{S:Nat→Nat}(hS: ∀j,S j<256)(br j:Nat):bu S br j<256:=Ae.aS (hS j) (Nat.mod_lt _ (by decide))
def oU(s:Nat):Prop:=s=1∨s=2∨s=3∨s=4∨s=5
def jP(s:Nat):Nat:=if s=5 then 2 else 1
def dH(s:Nat):Nat:=if s=4 then 16 else if s=5 then 32 else 48
def FQ(s:Nat):Nat:=if s=5 then 32 else 16
def bA(s:Nat):Nat:=if s=1 then 10 else if s=2 then 8 else if s=3 then 4 else 16
def ey(s:Nat):Nat:=if s=5 then 64 else 32
end Go.Hd

namespace Go.RX.Fm
open Go Go.RX Go.Proofs Go.RX.Sh Go.RX.Fg Go.RX.Fj Go.RX.Fk Go.Hd Go.Gh
theorem acx(i:Nat)(h:i≤7):2^(56 - 8*i)=256^(7 - i):=by
 have: ∀i,i<8→2^(56 - 8*i)=256^(7 - i):=by decide
 exact this i (by omega)
theorem bL.mO{t:Nat}:bL [] [aG true t 1 (.slice none 0 0) 0 []]:=by
 intro w Fs o;refine bz.add (a:=[]) o _ (fun _=>False) (Nat.le_refl _) (fun _ _=>rfl) ⟨?_,fun k=>by simp [Value.ownBlock]⟩ fun _ h=>h.elim
 simp only [if_true];exact jR w t 1
theorem hJ(n:Nat)(hn:n<18446744073709551616):ax aiT 54 [.int .u64 (n:Int)] [] fun r hs=> ∃o:V1,r=o.v∧hs=[aq true o (hb n) (be (hb n) n)]:=by
 refine ax.post (p:=fun r hs=>(n<8∧r= .slice none 0 0∧hs=[])∨(¬n<8∧∃o:V1,r=o.v∧hs=[aq true o (dg n) (be (dg n) n)])) ?_ ?_;rotate_left
 ·rintro r hs (⟨h,rfl,rfl⟩ | ⟨h,o,hr,rfl⟩)
  ·refine⟨_,bL.mO (t:=5),⟨.slice none 0 0,rfl⟩,rfl,?_⟩;rw [ef h];rfl
  ·refine⟨_,bL.refl _,o,hr,?_⟩;unfold hb;rw [if_neg h]
 refine Ka _ (n:Int) ?_;unfold AI;refine⟨fun h=> .inl ⟨by omega,rfl,rfl⟩,fun h8=>?_⟩;refine⟨fun e=> ∃i:Nat,i≤8∧e.i=[(56:Int) - 8*(i:Int),(dg (n/256^(8 - i)):Nat)]∧∀j,j<dg (n/256^(8 - i))→(e.a.getD 0 fun _=>0) j=(be (dg (n/256^(8 - i))) (n/256^(8 - i)) j:Nat),fun e=>(e.i.getD 0 0+8:Int).toNat,⟨_,_,_,_,rfl,rfl,rfl,rfl,fun _ _=>rfl,0,by omega,?_,?_⟩,?_⟩
 ·rw [show n/256^(8 - 0)=0 from Nat.div_eq_of_lt (by exact hn)];rfl
 ·rw [show n/256^(8 - 0)=0 from Nat.div_eq_of_lt (by exact hn)];intro j hj;exact absurd hj (by rw [CV];omega)
 rintro v1 x1 x2 A0 ⟨i,hi,hx,hA⟩;simp only [ai5,and_true]at hx;obtain⟨rfl,rfl⟩:=hx;simp only [ah]at hA;have td:ag ((dg (n/256^(8 - i)):Nat):Int)=dg (n/256^(8 - i)):=rfl;rw [td];refine⟨fun jI=>?_,fun bX=>?_⟩
 ·have hi7:i≤7:=by omega
  have hc:ae .u8 (ak .shr .u64 (n:Int) ((56:Int) - 8*(i:Int)))=((n/256^(7 - i)%256:Nat):Int):=by
   rw [show(56:Int) - 8*(i:Int)=((56 - 8*i:Nat):Int) by omega,fJ .u64 n _ (by show 56 - 8*i≤64;omega),wrap_u8,Nat.shiftRight_eq_div_pow,acx i hi7]
  rw [hc];have hm:n/256^(8 - i)=n/256^(7 - i)/256:=by rw [Nat.div_div_eq_div_mul,←Nat.pow_succ,show(7 - i).succ=8 - i by omega]
  have Y3:n/256^(8 - (i+1))=n/256^(7 - i):=by rw [show 8 - (i+1)=7 - i by omega]
  obtain⟨m',WN⟩: ∃m',m'=n/256^(7 - i):=⟨_,rfl⟩;rw [hm]at hA ⊢;rw [←WN]at hA ⊢ Y3;have hml:m'/256<72057594037927936:=by
   have:m'≤n:=by rw [WN];exact Nat.div_le_self _ _
   omega
  have P7:m'=m'/256*256+m'%256:=by omega
  refine⟨by omega,fun _=>⟨fun dI=>?_,fun heq=>?_⟩⟩
  ·have KD:m'/256*256+m'%256≠0:=by
    intro h0;have h1:m'/256=0:=by omega
    rw [h1,CV]at dI;omega
   have hs:=Sb (m'/256) (m'%256) (by omega) hml KD;rw [←P7]at hs;intro b0;have:=JQ (m'/256);refine⟨by omega,fun _=>⟨by omega,fun _=>?_⟩⟩;intro v2;refine⟨by omega,fun _=>⟨by omega,fun _=>⟨v2,_,_,_,rfl,rfl,rfl,rfl,fun _ _=>rfl,⟨i+1,by omega,?_,?_⟩,?_⟩⟩⟩
   ·rw [Y3,hs];exact congrArg (fun z:Int=>[z,((dg (m'/256)+1:Nat):Int)]) (by omega)
   ·intro j hj;rw [Y3,hs]at hj ⊢;simp only [ah];unfold au;have hbs:=JR (dg (m'/256)) (m'/256) (m'%256) j (by omega) hj;rw [←P7]at hbs;rw [hbs];split
    ·rename_i e;rw [if_neg (by omega)]
    ·rw [if_pos (by omega)];exact hA j (by omega)
   ·simp only [ah];omega
  ·have h1:m'/256=0:=by
    by_cases h:m'/256=0
    ·exact h
    ·have:=H2 h;omega
   have h2:m'=0:=by omega
   refine⟨by omega,fun _=>⟨by omega,fun _=>⟨v1,_,_,_,rfl,rfl,rfl,rfl,fun _ _=>rfl,⟨i+1,by omega,?_,?_⟩,?_⟩⟩⟩
   ·rw [Y3,h1,h2];exact congrArg (fun z:Int=>[z,((dg 0:Nat):Int)]) (by omega)
   ·intro j hj;rw [Y3,h2,CV]at hj;omega
   ·simp only [ah];omega
 ·have hi8:i=8:=by omega
  subst hi8;rw [show n/256^(8 - 8)=n by simp]at hA ⊢;refine .inr ⟨by omega,v1,rfl,?_⟩;unfold aq;dsimp only [bo,bi,bn];rw [aiX,bJ hA]
theorem H4: ∀n:Fin 8,ae .u8 (ak .aM .u64 ((n.val:Nat):Int) 7)=((n.val:Nat):Int):=by decide+kernel
theorem LY: ∀k:Fin 8,ak .bC .u8 8 (ae .u8 ((k.val:Nat):Int))=((8+k.val:Nat):Int):=by decide+kernel
theorem Pf: ∀a b:Fin 16,ak .bC .u8 (ak .shl .u8 ((a.val:Nat):Int) 4) ((b.val:Nat):Int)=((a.val*16+b.val:Nat):Int):=by decide+kernel
theorem Vz{n:Nat}(h:0<hb n):ak .bC .u8 8 (ae .u8 (((hb n:Nat):Int) - 1))=((ik n:Nat):Int):=by
 have h8: ¬n<8:=fun h8=>by rw [ef h8]at h;omega
 have hl:=wz n;rw [show((hb n:Nat):Int) - 1=((hb n - 1:Nat):Int) by omega,LY ⟨hb n - 1,by omega⟩];have he:hb n=dg n:=by unfold hb;rw [if_neg h8]
 rw [he]at h;show((8+(hb n - 1):Nat):Int)=_;unfold ik;rw [if_neg h8,he];congr 1;omega
theorem VA{n:Nat}(h:hb n=0)(hn:n<18446744073709551616):ae .u8 (ak .aM .u64 (n:Int) 7)=((ik n:Nat):Int):=by
 have h8:n<8:=by
  by_cases h8:n<8
  ·exact h8
  ·unfold hb at h;rw [if_neg h8]at h;have:=H2 (n:=n) (by omega);omega
 rw [H4 ⟨n,h8⟩];unfold ik;rw [if_pos h8]
theorem acy: ∀a:Fin 16,ak .bC .u8 0 ((a.val:Nat):Int)=((a.val:Nat):Int):=by decide+kernel
theorem H5(aY br:Nat)(j:Nat)(hj:j<1+hb aY+hb br):
  ay (au (ay (fun _=>((ik aY:Nat):Int)) 1 (hb aY) fun j=>((be (hb aY) aY j:Nat):Int)) 0 ((ik aY*16+ik br:Nat):Int)) (1+hb aY) (hb br) (fun j=>((be (hb br) br j:Nat):Int)) j=((dM aY br j:Nat):Int):=by
 unfold ay au dM;by_cases h0:j=0
 ·rw [if_neg (by omega)];dsimp only;rw [if_pos h0,if_pos h0]
 by_cases h1:j<1+hb aY
 ·rw [if_neg (by omega)];dsimp only;rw [if_neg h0,if_neg h0,if_pos (by omega),if_pos h1]
 ·rw [if_pos (by omega)];dsimp only;rw [if_neg h0,if_neg h1]
set_option maxHeartbeats 1000000 in
theorem j6(aY br:Nat)(hk:aY<18446744073709551616)(hc:br<18446744073709551616):ax aiT 27 [.agg #[.int .u64 (aY:Int),.int .u64 (br:Int)]] [] fun r hs=> ∃o:V1,r=o.v∧hs=[aq true o (bS aY br) (dM aY br)]:=by
 refine ax.post (p:=fun r hs=> ∃o:V1,r=o.v∧hs[1]? =some (aq true o (bS aY br) (dM aY br))) ?_ ?_;rotate_left
 ·rintro r hs ⟨o,rfl,h⟩;exact⟨_,bL.JE 1 h,o,rfl,rfl⟩
 refine Qg _ (aY:Int) (br:Int) ?_;unfold IC;intro b0 b1;have l1:=wz aY;have l2:=wz br;have n1:=qj aY;have n2:=qj br;have hz:=acy ⟨ik aY,n1⟩;have Ak:=Pf ⟨ik aY,n1⟩ ⟨ik br,n2⟩;simp only at hz Ak;have fin: ∀v3:V1,some (aG true 5 1 v3.v (1+hb aY+hb br) (aW (1+hb aY+hb br) [bd .u8 1 (ay (au (ay (fun _=>((ik aY:Nat):Int)) 1 (hb aY) fun j=>((be (hb aY) aY j:Nat):Int)) 0 ((ik aY*16+ik br:Nat):Int)) (1+hb aY) (hb br) (fun j=>((be (hb br) br j:Nat):Int)))]))=some (aq true v3 (bS aY br) (dM aY br)):=fun v3=>by
  unfold aq bS;rw [bJ fun j hj=>H5 aY br j hj]
 refine⟨_,hJ aY hk,?_⟩;rintro x hs ⟨v0,rfl,rfl⟩;refine⟨v0,(hb aY:Nat),fun j=>(be (hb aY) aY j:Nat),rfl,rfl,by omega,fun _=>⟨fun h1=>?_,fun h1=>?_⟩⟩
 ·have e1:=Vz (n:=aY) (by omega)
  iterate 3 refine⟨by omega,fun _=>?_⟩
  intro v1;refine⟨_,hJ br hc,?_⟩;rintro x hs ⟨v2,rfl,rfl⟩;refine⟨v2,(hb br:Nat),fun j=>(be (hb br) br j:Nat),rfl,rfl,by omega,fun _=>⟨fun h2=>?_,fun h2=>?_⟩⟩
  ·have e2:=Vz (n:=br) (by omega)
   iterate 5 refine⟨by omega,fun _=>?_⟩
   intro v3;refine⟨v3,rfl,?_⟩;rw [e1,e2,hz,←fin v3];have t:ag ((1:Int)+((hb aY:Nat):Int)+((hb br:Nat):Int))=1+hb aY+hb br:=by omega
   have t1:ag ((1:Int)+((hb aY:Nat):Int))=1+hb aY:=by omega
   have sp:ay (fun _=>((ik aY:Nat):Int)) 1 (ag ((hb aY:Nat):Int)) (fun j=>((be (hb aY) aY j:Nat):Int)) 0=((ik aY:Nat):Int):=rfl;show some (aG true 5 1 v3.v (ag ((1:Int)+((hb aY:Nat):Int)+((hb br:Nat):Int))) _)=_;rw [t,t1,sp,Ak];rfl
  ·have e2:=VA (n:=br) (by omega) hc
   iterate 3 refine⟨by omega,fun _=>?_⟩
   intro v3;refine⟨v3,rfl,?_⟩;rw [e1,e2,hz,←fin v3];have t:ag ((1:Int)+((hb aY:Nat):Int)+((hb br:Nat):Int))=1+hb aY+hb br:=by omega
   have t1:ag ((1:Int)+((hb aY:Nat):Int))=1+hb aY:=by omega
   have sp:ay (fun _=>((ik aY:Nat):Int)) 1 (ag ((hb aY:Nat):Int)) (fun j=>((be (hb aY) aY j:Nat):Int)) 0=((ik aY:Nat):Int):=rfl;show some (aG true 5 1 v3.v (ag ((1:Int)+((hb aY:Nat):Int)+((hb br:Nat):Int))) _)=_;rw [t,t1,sp,Ak];rfl
 ·have e1:=VA (n:=aY) (by omega) hk;refine⟨by omega,fun _=>?_⟩;intro v1;refine⟨_,hJ br hc,?_⟩;rintro x hs ⟨v2,rfl,rfl⟩;refine⟨v2,(hb br:Nat),fun j=>(be (hb br) br j:Nat),rfl,rfl,by omega,fun _=>⟨fun h2=>?_,fun h2=>?_⟩⟩
  ·have e2:=Vz (n:=br) (by omega)
   iterate 5 refine⟨by omega,fun _=>?_⟩
   intro v3;refine⟨v3,rfl,?_⟩;rw [e1,e2,hz,←fin v3];have t:ag ((1:Int)+((hb aY:Nat):Int)+((hb br:Nat):Int))=1+hb aY+hb br:=by omega
   have t1:ag ((1:Int)+((hb aY:Nat):Int))=1+hb aY:=by omega
   have sp:ay (fun _=>((ik aY:Nat):Int)) 1 (ag ((hb aY:Nat):Int)) (fun j=>((be (hb aY) aY j:Nat):Int)) 0=((ik aY:Nat):Int):=rfl;show some (aG true 5 1 v3.v (ag ((1:Int)+((hb aY:Nat):Int)+((hb br:Nat):Int))) _)=_;rw [t,t1,sp,Ak];rfl
  ·have e2:=VA (n:=br) (by omega) hc
   iterate 3 refine⟨by omega,fun _=>?_⟩
   intro v3;refine⟨v3,rfl,?_⟩;rw [e1,e2,hz,←fin v3];have t:ag ((1:Int)+((hb aY:Nat):Int)+((hb br:Nat):Int))=1+hb aY+hb br:=by omega
   have t1:ag ((1:Int)+((hb aY:Nat):Int))=1+hb aY:=by omega
   have sp:ay (fun _=>((ik aY:Nat):Int)) 1 (ag ((hb aY:Nat):Int)) (fun j=>((be (hb aY) aY j:Nat):Int)) 0=((ik aY:Nat):Int):=rfl;show some (aG true 5 1 v3.v (ag ((1:Int)+((hb aY:Nat):Int)+((hb br:Nat):Int))) _)=_;rw [t,t1,sp,Ak];rfl
theorem BH{B:List HP}(aY br:Nat)(hk:aY<18446744073709551616)(hc:br<18446744073709551616):ax aiT 27 [.agg #[.int .u64 (aY:Int),.int .u64 (br:Int)]] B fun r hs=> ∃o:V1,r=o.v∧hs=B++[aq true o (bS aY br) (dM aY br)]:=
 kE (j6 aY br hk hc) (by simp)
open Go Go.RX Go.Proofs Go.RX.Sh Go.RX.Fg Go.RX.Fi Go.RX.Fj Go.RX.Fk Go.Hd Go.Gh Go.RX.Fe
theorem VB: ∀t:Fin 256,ak .aM .u8 ((t.val:Nat):Int) 15=((t.val%16:Nat):Int):=by decide+kernel
theorem acz: ∀t:Fin 256,ak .shr .u8 ((t.val:Nat):Int) 4=((t.val/16:Nat):Int):=by decide+kernel
theorem Pg{a:Nat}(h:8≤a)(h2:a<16):ae .u8 ((a:Int) - 8)=((a - 8:Nat):Int):=by
 rw [show(a:Int) - 8=((a - 8:Nat):Int) by omega,wrap_u8];congr 1;omega
def Ph(n:Nat)(T:Nat→Nat)(r:Value):Prop:=
 (qk n T∧r= .tuple #[.agg #[.int .u64 (bV T:Nat),.int .u64 (aZ T:Nat)],.int .i64 ((1+nk T+nc T:Nat):Int),.int .i64 0])∨
 (¬qk n T∧r= .tuple #[.agg #[.int .u64 0,.int .u64 0],.int .i64 0,.int .i64 9])
set_option maxHeartbeats 4000000 in
theorem oO(v0:V1)(n:Nat)(T:Nat→Nat)(hT: ∀j,T j<256):ax aiT 34 [v0.v] [aq false v0 n T] fun r hs=>Ph n T r∧hs=[]:=by
 refine ax.post (p:=fun r _=>Ph n T r) ?_ fun v hs h=>⟨[],bL.sub (List.nil_sublist _),h,rfl⟩
 refine Mv _ (n:Int) (fun j=>(T j:Nat)) v0 ?_;unfold Dp;dsimp only;have EX:=hT 0;have Ao:=acz ⟨T 0,EX⟩;have Y4:=VB ⟨T 0,EX⟩;dsimp only at Ao Y4;rw [Ao,Y4];obtain⟨a,ha⟩: ∃a,a=T 0/16:=⟨_,rfl⟩;obtain⟨c,hc⟩: ∃c,c=T 0%16:=⟨_,rfl⟩;rw [←ha,←hc];have OX:a<16:=by omega
 have VD:c<16:=by omega
 have wa:ae .u64 (a:Int)=(a:Int):=qe (by omega);have wc:ae .u64 (c:Int)=(c:Int):=qe (by omega);intro b0;refine⟨by omega,fun _=>⟨fun h0=> .inr ⟨fun h=>by have:=h.1;omega,rfl⟩,fun h0=>?_⟩⟩;intro b1;have AX:0<n:=by omega
 refine⟨by omega,fun _=>⟨fun h8=>⟨fun c8=>?_,fun c8=>?_⟩,fun h8=>?_⟩⟩
 ·have k0:nk T=0:=by unfold nk;rw [if_pos (by omega)]
  have c0:nc T=0:=by unfold nc;rw [if_pos (by omega)]
  have e1:bV T=a:=by unfold bV;rw [if_pos (by omega),ha]
  have e2:aZ T=c:=by unfold aZ;rw [if_pos (by omega),hc]
  rw [wa,wc];refine .inl ⟨⟨by omega,by rw [e1,k0];exact ef (by omega),by rw [e2,c0];exact ef (by omega)⟩,?_⟩;rw [e1,e2,k0,c0];rfl
 ·have k0:nk T=0:=by unfold nk;rw [if_pos (by omega)]
  have c0:nc T=c - 7:=by unfold nc;rw [if_neg (by omega),hc]
  have e1:bV T=a:=by unfold bV;rw [if_pos (by omega),ha]
  have e2:aZ T=ni (fun j=>T (1+j)) (c - 7):=by
   unfold aZ;rw [if_neg (by omega),c0,k0]
  have hk:hb (bV T)=nk T:=by rw [e1,k0];exact ef (by omega)
  have dz:=CW hT;rw [Pg (by omega) VD,wa]
  iterate 6 refine⟨by omega,fun _=>?_⟩
  refine⟨fun bX=> .inr ⟨fun h=>by have:=h.1;omega,rfl⟩,fun jI=>?_⟩
  iterate 3 refine⟨by omega,fun _=>?_⟩
  refine⟨fun e=> ∃i:Nat,i≤c - 7∧e.i=[(i:Int)]∧(e.a.getD 0 fun _=>0) 0=(a:Int)∧(e.a.getD 0 fun _=>0) 1=(ni (fun j=>T (1+j)) i:Nat),fun e=>((16:Int) - e.i.getD 0 0).toNat,⟨0,_,rfl,fun _ _=>rfl,0,by omega,rfl,rfl,rfl⟩,?_⟩;rintro x1 A1 ⟨i,hi,hx,wi,Dk⟩;simp only [ai5,and_true]at hx;subst hx;simp only [ah]at wi Dk;refine⟨fun bX=>?_,fun acA=>?_⟩
  ·have t1:ag (1+(i:Int))=1+i:=by omega
   rw [t1]
   iterate 7 refine⟨by omega,fun _=>?_⟩
   refine⟨_,_,rfl,fun _ _=>rfl,⟨i+1,by omega,rfl,?_,?_⟩,?_⟩
   ·show A1 0=_;exact wi
   ·show ak .bC .u64 (ak .shl .u64 (A1 1) 8) (ae .u64 ((T (1+i):Nat):Int))=_;have hw:ni (fun j=>T (1+j)) i<2^56:=ai1 (qb _ (fun j=>hT _) i) (Nat.le_trans (Nat.pow_le_pow_right (by decide) (show i≤7 by omega)) (by decide));rw [Dk,Fh.P_ hw (hT _)];rfl
   ·simp only [ah];omega
  ·have wM:i=c - 7:=by omega
   subst wM;rw [←e2]at Dk;rw [wi,Dk];refine⟨_,hJ (aZ T) dz,?_⟩;rintro x hs ⟨v1,rfl,rfl⟩;have uf:=wz (aZ T);refine⟨v1,(hb (aZ T):Nat),fun j=>(be (hb (aZ T)) (aZ T) j:Nat),rfl,rfl,by omega,fun _=>⟨by omega,fun _=>⟨by omega,fun _=>⟨fun dI=>?_,fun heq=>?_⟩⟩⟩⟩
   ·exact .inr ⟨fun h=>by have:=h.2.2;omega,rfl⟩
   ·refine .inl ⟨⟨by omega,hk,by omega⟩,?_⟩;rw [e1,k0,c0,show(1:Int)+((c - 8:Nat):Int)+1=((1+0+(c - 7):Nat):Int) by omega]
 ·have k0:nk T=a - 7:=by unfold nk;rw [if_neg (by omega),ha]
  have e1:bV T=ni (fun j=>T (1+j)) (a - 7):=by
   unfold bV;rw [if_neg (by omega),k0]
  have DT:=Pd hT;have dz:=CW hT;have ahb:=Pc T;rw [Pg (by omega) OX]
  iterate 6 refine⟨by omega,fun _=>?_⟩
  refine⟨fun bX=> .inr ⟨fun h=>by have:=h.1;omega,rfl⟩,fun jI=>?_⟩
  iterate 3 refine⟨by omega,fun _=>?_⟩
  refine⟨fun e=> ∃i:Nat,i≤a - 7∧e.i=[(i:Int)]∧(e.a.getD 0 fun _=>0) 0=(ni (fun j=>T (1+j)) i:Nat)∧(e.a.getD 0 fun _=>0) 1=0,fun e=>((16:Int) - e.i.getD 0 0).toNat,⟨0,_,rfl,fun _ _=>rfl,0,by omega,rfl,rfl,rfl⟩,?_⟩;rintro x1 A1 ⟨i,hi,hx,wi,Dk⟩;simp only [ai5,and_true]at hx;subst hx;simp only [ah]at wi Dk;refine⟨fun bX=>?_,fun acA=>?_⟩
  ·have t1:ag (1+(i:Int))=1+i:=by omega
   rw [t1]
   iterate 7 refine⟨by omega,fun _=>?_⟩
   refine⟨_,_,rfl,fun _ _=>rfl,⟨i+1,by omega,rfl,?_,?_⟩,?_⟩
   ·show ak .bC .u64 (ak .shl .u64 (A1 0) 8) (ae .u64 ((T (1+i):Nat):Int))=_;have hw:ni (fun j=>T (1+j)) i<2^56:=ai1 (qb _ (fun j=>hT _) i) (Nat.le_trans (Nat.pow_le_pow_right (by decide) (show i≤7 by omega)) (by decide));rw [wi,Fh.P_ hw (hT _)];rfl
   ·show A1 1=0;exact Dk
   ·simp only [ah];omega
  have wM:i=a - 7:=by omega
  subst wM;rw [←e1]at wi;rw [wi];refine⟨_,hJ (bV T) DT,?_⟩;rintro x hs ⟨v1,rfl,rfl⟩;have uf:=wz (bV T);refine⟨v1,(hb (bV T):Nat),fun j=>(be (hb (bV T)) (bV T) j:Nat),rfl,rfl,by omega,fun _=>⟨by omega,fun _=>⟨by omega,fun _=>⟨fun dI=>?_,fun heq=>?_⟩⟩⟩⟩
  ·exact .inr ⟨fun h=>by have:=h.2.1;omega,rfl⟩
  have hk:hb (bV T)=nk T:=by omega
  refine⟨fun c8=>?_,fun c8=>?_⟩
  ·have c0:nc T=0:=by unfold nc;rw [if_pos (by omega)]
   have e2:aZ T=c:=by unfold aZ;rw [if_pos (by omega),hc]
   rw [wc];refine .inl ⟨⟨by omega,hk,by rw [e2,c0];exact ef (by omega)⟩,?_⟩;rw [e2,k0,c0,show(1:Int)+((a - 8:Nat):Int)+1=((1+(a - 7)+0:Nat):Int) by omega]
  ·have c0:nc T=c - 7:=by unfold nc;rw [if_neg (by omega),hc]
   have e2:aZ T=ni (fun j=>T (1+nk T+j)) (c - 7):=by
    unfold aZ;rw [if_neg (by omega),c0]
   rw [Pg (by omega) VD]
   iterate 7 refine⟨by omega,fun _=>?_⟩
   refine⟨fun bX=> .inr ⟨fun h=>by have:=h.1;omega,rfl⟩,fun ahc=>?_⟩
   iterate 4 refine⟨by omega,fun _=>?_⟩
   refine⟨fun e=> ∃i:Nat,i≤c - 7∧e.i=[(i:Int)]∧(e.a.getD 0 fun _=>0) 0=(bV T:Nat)∧(e.a.getD 0 fun _=>0) 1=(ni (fun j=>T (1+nk T+j)) i:Nat),fun e=>((16:Int) - e.i.getD 0 0).toNat,⟨0,_,rfl,fun _ _=>rfl,0,by omega,rfl,wi,Dk⟩,?_⟩;rintro x3 A3 ⟨i3,hi3,hx,hB0,hB1⟩;simp only [ai5,and_true]at hx;subst hx;simp only [ah]at hB0 hB1;refine⟨fun bX=>?_,fun ahd=>?_⟩
   ·have t1:ag ((1:Int)+((a - 8:Nat):Int)+1+(i3:Int))=1+nk T+i3:=by omega
    rw [t1]
    iterate 8 refine⟨by omega,fun _=>?_⟩
    refine⟨_,_,rfl,fun _ _=>rfl,⟨i3+1,by omega,rfl,?_,?_⟩,?_⟩
    ·show A3 0=_;exact hB0
    ·show ak .bC .u64 (ak .shl .u64 (A3 1) 8) (ae .u64 ((T (1+nk T+i3):Nat):Int))=_;have hw:ni (fun j=>T (1+nk T+j)) i3<2^56:=ai1 (qb _ (fun j=>hT _) i3) (Nat.le_trans (Nat.pow_le_pow_right (by decide) (show i3≤7 by omega)) (by decide));rw [hB1,Fh.P_ hw (hT _)];rfl
    ·simp only [ah];omega
   ·have wM:i3=c - 7:=by omega
    subst wM;rw [←e2]at hB1;rw [hB0,hB1];refine⟨_,hJ (aZ T) dz,?_⟩;rintro x hs ⟨v2,rfl,rfl⟩;have ahe:=wz (aZ T);refine⟨v2,(hb (aZ T):Nat),fun j=>(be (hb (aZ T)) (aZ T) j:Nat),rfl,rfl,by omega,fun _=>⟨by omega,fun _=>⟨by omega,fun _=>⟨fun ahf=>?_,fun ahg=>?_⟩⟩⟩⟩
    ·exact .inr ⟨fun h=>by have:=h.2.2;omega,rfl⟩
    ·refine .inl ⟨⟨by omega,hk,by omega⟩,?_⟩;rw [k0,c0,show(1:Int)+((a - 8:Nat):Int)+1+((c - 8:Nat):Int)+1=((1+(a - 7)+(c - 7):Nat):Int) by omega]
theorem sh{B:List HP}{x:Value}(hx:x.oneCell'=true)(n:Nat)(T:Nat→Nat)(hT: ∀j,T j<256)(h:ar B (aH x n T)):ax aiT 34 [x] B fun r hs=>Ph n T r∧hs=B:=
 kF (oO ⟨x,hx⟩ n T hT) (iB h)
theorem Sf{n:Nat}(s:Nat)(hs:s≤64):ae .u8 (ak .shr .u64 (n:Int) (s:Int))=((n/2^s%256:Nat):Int):=by
 rw [fJ .u64 n s hs,wrap_u8,Nat.shiftRight_eq_div_pow]
set_option maxHeartbeats 1000000 in
theorem wA(su aY br:Nat)(v0:V1)(S:Nat→Nat)(hS: ∀j,S j<256)(hc:br<18446744073709551616):
  ax aiT 57 [.agg (.int .u16 (su:Int):: .int .u64 (aY:Int)::v0.v::(aiL (aj .u8 12 fun j=>((S j:Nat):Int)) [])).toArray,.int .u64 (br:Int)] [] fun r hs=>r=eW (bu S br)∧hs=[]:=by
 refine ax.post (p:=fun r _=>r=eW (bu S br)) ?_ fun v hs h=>⟨[],bL.sub (List.nil_sublist _),h,rfl⟩
 refine Kb _ (su:Int) (aY:Int) (br:Int) (fun _=>0) (fun j=>(S j:Nat)) v0 ?_;unfold AJ;dsimp only;intro b0 b1 b2;have hx: ∀(j s p:Nat),s≤64→2^s=256^(11 - j)→p=s→ak .aB .u8 ((S j:Nat):Int) (ae .u8 (ak .shr .u64 (br:Int) (p:Int)))=((bu S br j:Nat):Int):=by
  intro j s p hs hp e;subst e;rw [Sf p hs,cF (hS j) (Nat.mod_lt _ (by decide)),hp];rfl
 have h0: ∀j,j<4→bu S br j=S j:=by
  intro j hj;unfold bu;have h1:256^(11 - j)=256^(3 - j)*18446744073709551616:=by
   have: ∀j,j<4→256^(11 - j)=256^(3 - j)*18446744073709551616:=by decide
   exact this j hj
  have h2:br/256^(11 - j)=0:=by
   refine Nat.div_eq_of_lt (ai1 hc ?_);rw [h1];exact Nat.le_mul_of_pos_left _ (Nat.pow_pos (by decide))
  rw [h2];exact Nat.xor_zero _
 have e4:ak .aB .u8 ((S 4:Nat):Int) (ae .u8 (ak .shr .u64 (br:Int) 56))=((bu S br 4:Nat):Int):=hx 4 56 56 (by decide) (by decide) rfl;have e5:ak .aB .u8 ((S 5:Nat):Int) (ae .u8 (ak .shr .u64 (br:Int) 48))=((bu S br 5:Nat):Int):=hx 5 48 48 (by decide) (by decide) rfl;have e6:ak .aB .u8 ((S 6:Nat):Int) (ae .u8 (ak .shr .u64 (br:Int) 40))=((bu S br 6:Nat):Int):=hx 6 40 40 (by decide) (by decide) rfl;have e7:ak .aB .u8 ((S 7:Nat):Int) (ae .u8 (ak .shr .u64 (br:Int) 32))=((bu S br 7:Nat):Int):=hx 7 32 32 (by decide) (by decide) rfl;have e8:ak .aB .u8 ((S 8:Nat):Int) (ae .u8 (ak .shr .u64 (br:Int) 24))=((bu S br 8:Nat):Int):=hx 8 24 24 (by decide) (by decide) rfl;have e9:ak .aB .u8 ((S 9:Nat):Int) (ae .u8 (ak .shr .u64 (br:Int) 16))=((bu S br 9:Nat):Int):=hx 9 16 16 (by decide) (by decide) rfl;have RF:ak .aB .u8 ((S 10:Nat):Int) (ae .u8 (ak .shr .u64 (br:Int) 8))=((bu S br 10:Nat):Int):=hx 10 8 8 (by decide) (by decide) rfl;have TO:ak .aB .u8 ((S 11:Nat):Int) (ae .u8 (ak .shr .u64 (br:Int) 0))=((bu S br 11:Nat):Int):=hx 11 0 0 (by decide) (by decide) rfl;unfold eW;congr 1;show List.toArray _=List.toArray _;congr 1;show [Value.int .u8 ((S 0:Nat):Int),Value.int .u8 ((S 1:Nat):Int),Value.int .u8 ((S 2:Nat):Int),Value.int .u8 ((S 3:Nat):Int),_,_,_,_,_,_,_,_]=[Value.int .u8 ((bu S br 0:Nat):Int),Value.int .u8 ((bu S br 1:Nat):Int),Value.int .u8 ((bu S br 2:Nat):Int),Value.int .u8 ((bu S br 3:Nat):Int),_,_,_,_,_,_,_,_];rw [h0 0 (by decide),h0 1 (by decide),h0 2 (by decide),h0 3 (by decide),e4,e5,e6,e7,e8,e9,RF,TO]
open Go Go.RX Go.Proofs Go.RX.Sh Go.RX.Fg Go.RX.Fj Go.RX.Fk Go.Hd Go.Gh Go.RX.Fe
def H6(s:Nat)(r:Value):Prop:=
 (oU s∧r= .tuple #[.agg #[.int .u8 (jP s:Nat),.int .i64 (dH s:Nat),.int .i64 (FQ s:Nat),.int .i64 (bA s:Nat),.int .i64 (ey s:Nat)],.int .i64 0])∨
 (¬oU s∧r= .tuple #[.agg #[.int .u8 0,.int .i64 0,.int .i64 0,.int .i64 0,.int .i64 0],.int .i64 130])
theorem FR{s n:Nat}(h:s≠n):ag ((bG ((ajw 1).map (fun _=>(s:Int))):Nat):Int)≠bG [(n:Int)]:=by
 intro e;have:=qH (l:=[(s:Int)]) (m:=[(n:Int)]) rfl e;simp only [ai5,and_true]at this;omega
theorem wB(s:Nat):ax aiT 53 [.int .u16 (s:Int)] [] fun r hs=>H6 s r∧hs=[]:=by
 refine ax.post (p:=fun r _=>H6 s r) ?_ fun v hs h=>⟨[],bL.sub (List.nil_sublist _),h,rfl⟩
 refine GI _ (s:Int) ?_;unfold xB;intro b0 b1 b2;have k1:bG [((1:Nat):Int)]=20:=by decide+kernel
 have k2:bG [((2:Nat):Int)]=72:=by decide+kernel
 have k3:bG [((3:Nat):Int)]=104:=by decide+kernel
 have k4:bG [((4:Nat):Int)]=272:=by decide+kernel
 have k5:bG [((5:Nat):Int)]=336:=by decide+kernel
 by_cases h1:s=1
 ·subst h1;have e:ag ((bG ((ajw 1).map (fun _=>((1:Nat):Int))):Nat):Int)=20:=k1;rw [e];exact⟨fun _=> .inl ⟨.inl rfl,rfl⟩,fun h=>absurd h (by decide)⟩
 by_cases h2:s=2
 ·subst h2;have e:ag ((bG ((ajw 1).map (fun _=>((2:Nat):Int))):Nat):Int)=72:=k2;rw [e];exact⟨fun _=> .inl ⟨.inr (.inl rfl),rfl⟩,fun h=>absurd h (by decide)⟩
 by_cases h3:s=3
 ·subst h3;have e:ag ((bG ((ajw 1).map (fun _=>((3:Nat):Int))):Nat):Int)=104:=k3;rw [e];exact⟨fun _=> .inl ⟨.inr (.inr (.inl rfl)),rfl⟩,fun h=>absurd h (by decide)⟩
 by_cases h4:s=4
 ·subst h4;have e:ag ((bG ((ajw 1).map (fun _=>((4:Nat):Int))):Nat):Int)=272:=k4;rw [e];exact⟨fun _=> .inl ⟨.inr (.inr (.inr (.inl rfl))),rfl⟩,fun h=>absurd h (by decide)⟩
 by_cases h5:s=5
 ·subst h5;have e:ag ((bG ((ajw 1).map (fun _=>((5:Nat):Int))):Nat):Int)=336:=k5;rw [e];exact⟨fun _=> .inl ⟨.inr (.inr (.inr (.inr rfl))),rfl⟩,fun h=>absurd h (by decide)⟩
 have n1:=FR h1;have n2:=FR h2;have n3:=FR h3;have n4:=FR h4;have n5:=FR h5;rw [k1]at n1;rw [k2]at n2;rw [k3]at n3;rw [k4]at n4;rw [k5]at n5;have z:au (au (au (au (au (fun _=>0) 20 1) 72 1) 104 1) 272 1) 336 1 (ag ((bG ((ajw 1).map (fun _=>(s:Int))):Nat):Int))=0:=by
  unfold au;rw [if_neg n5,if_neg n4,if_neg n3,if_neg n2,if_neg n1]
 refine⟨fun h=>absurd z h,fun _=> .inr ⟨fun h=>?_,rfl⟩⟩;rcases h with h | h | h | h | h
 ·exact h1 h
 ·exact h2 h
 ·exact h3 h
 ·exact h4 h
 ·exact h5 h
theorem wC{B:List HP}(s:Nat):ax aiT 53 [.int .u16 (s:Int)] B fun r hs=>H6 s r∧hs=B:=
 kF (wB s) (by simp)
theorem AD(b:Nat)(v0 v1:V1)(n0 n1:Nat)(T0 T1:Nat→Nat)(hl:n0+n1≤140737488355328):
  ax aiT 29 [.slice (some ⟨b,0,none⟩) 2 2] [al b true [v0.v,v1.v],aq false v0 n0 T0,aq false v1 n1 T1] fun r hs=> ∃o:V1,r=o.v∧hs=[al b true [v0.v,v1.v],aq true o (n0+n1) (fu n0 T0 T1)]:=by
 have fin: ∀o:V1,[al b true [v0.v,v1.v],aG true 5 1 o.v (ag ((n0:Int)+(n1:Int))) (aW (ag ((n0:Int)+(n1:Int))) [bd .u8 1 (ay (fun j=>((T0 j:Nat):Int)) (ag (n0:Int)) (ag (n1:Int)) fun j=>((T1 j:Nat):Int))])]=[al b true [v0.v,v1.v],aq true o (n0+n1) (fu n0 T0 T1)]:=by
  intro o;unfold aq;rw [show ag ((n0:Int)+(n1:Int))=n0+n1 by omega,aiX,aiX];congr 3;refine bJ fun j hj=>?_
  unfold ay fu;by_cases c:j<n0
  ·rw [if_neg (by omega),if_pos c]
  ·rw [if_pos (by omega),if_neg c]
 refine GJ _ (n0:Int) (n1:Int) (fun j=>(T0 j:Nat)) (fun j=>(T1 j:Nat)) v0 v1 b ?_;unfold xC
 iterate 3 refine⟨by omega,fun _=>?_⟩
 refine⟨fun h=>by omega,fun _=>⟨by omega,fun _=>⟨by omega,fun _=>⟨by omega,fun _=>⟨fun h=>by omega,fun _=>⟨fun h=>?_,fun h=>?_⟩⟩⟩⟩⟩⟩
 ·refine⟨by omega,fun _=>⟨by omega,fun _ v2=>⟨by omega,fun _ v3 v4=>⟨v4,rfl,?_⟩⟩⟩⟩;exact fin v4
 ·refine⟨by omega,fun _ v2=>⟨by omega,fun _ v3=>⟨v3,rfl,?_⟩⟩⟩;exact fin v3
theorem fX{B:List HP}(b:Nat){x0 x1:Value}(h0:x0.oneCell'=true)(h1:x1.oneCell'=true)(n0 n1:Nat)(T0 T1:Nat→Nat)(hl:n0+n1≤140737488355328)(g0:ar B (aH x0 n0 T0))(g1:ar B (aH x1 n1 T1)):
  ax aiT 29 [.slice (some ⟨b,0,none⟩) 2 2] ([al b true [x0,x1]]++B) fun r hs=> ∃o:V1,r=o.v∧hs=[al b true [x0,x1]]++B++[aq true o (n0+n1) (fu n0 T0 T1)]:=by
 have hm:ax aiT 29 [.slice (some ⟨b,0,none⟩) 2 2] ([al b true [x0,x1]]++[aH x0 n0 T0,aH x1 n1 T1]) fun r hs=> ∃nw,(∃o:V1,r=o.v∧nw=[aq true o (n0+n1) (fu n0 T0 T1)])∧hs=[al b true [x0,x1]]++nw:=by
  refine ax.post (AD b ⟨x0,h0⟩ ⟨x1,h1⟩ n0 n1 T0 T1 hl) ?_;rintro r hs ⟨o,hr,rfl⟩;exact⟨_,bL.refl _,_,⟨o,hr,rfl⟩,rfl⟩
 refine ax.post (ax.kX hm ?_ ?_ (EY g0 g1)) ?_
 ·intro h hh;simp only [ai0,aiZ,or_false]at hh;subst hh;rfl
 ·rintro v nw ⟨o,_,rfl⟩ h hh;simp only [ai0,aiZ,or_false]at hh;subst hh;rfl
 ·rintro r hs ⟨nw,⟨o,hr,rfl⟩,rfl⟩;exact⟨_,bL.refl _,o,hr,rfl⟩
theorem ql{B:List HP}{x:Value}(hx:x.oneCell'=true)(K:Nat→Nat)(hK: ∀j,K j<256)(hb:ar B (aH x 16 K)):
  ax aiT 60 [x] B fun r hs=> ∃(b:Nat) (w:V1),r= .tuple #[.pointer (some ⟨b,0,none⟩),.int .i64 0]∧hs=B++[dp b w,ib w 4 K]:=by
 have h:ax aiT 60 [x] ([]++[aH x 16 K]) fun r hs=> ∃nw,(∃(b:Nat) (w:V1),r= .tuple #[.pointer (some ⟨b,0,none⟩),.int .i64 0]∧nw=[dp b w,ib w 4 K])∧hs=[]++nw:=by
  refine ax.post (qa ⟨x,hx⟩ K hK) ?_;rintro r hs ⟨b,w,hr,rfl⟩;exact⟨_,bL.sub (List.sublist_cons_self _ _),_,⟨b,w,hr,rfl⟩,rfl⟩
 refine ax.post (ax.kX h (by simp) ?_ (iB hb)) ?_
 ·rintro v nw ⟨b,w,_,rfl⟩ h hh;simp only [ai0,aiZ,or_false]at hh;rcases hh with rfl | rfl<;>rfl
 ·rintro r hs ⟨nw,⟨b,w,hr,rfl⟩,rfl⟩;exact⟨B++[dp b w,ib w 4 K],by simpa using bL.refl _,b,w,hr,rfl⟩
end Go.RX.Fm
