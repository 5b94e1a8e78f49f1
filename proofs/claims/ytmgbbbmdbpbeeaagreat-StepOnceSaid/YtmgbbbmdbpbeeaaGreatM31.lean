/- Keys that are derived. -/
import Derived.Test.YtmgbbbmdbpbeeaaGreatM30
open Classical renaming not_not → ai4
open Go.IntKind renaming wrap → ae
open Go.Proofs.Tryz renaming prog → aiT
open Int renaming toNat → ag, toNat_natCast → aiX
open List renaming append → aiL, append_eq → ajp, getD_cons_succ → aiS, getD_cons_zero → ah, mem_cons → ai0, not_mem_nil → aiZ
open List.cons renaming injEq → ai5
namespace Go.RX.Fq
open Go Go.RX Go.Proofs Go.RX.Sh Go.RX.Fg Go.RX.Fj Go.RX.Fk Go.RX.Fm Go.Hd
def HW(h w:Nat):Prop:=(h=1∧w=32)∨(h=2∧w=64)
theorem iP{f:Nat}{args:List Value}{L B:List HP}{Q:Value→List HP→Prop}(hm:ax aiT f args L Q)(hQ: ∀v nw,Q v nw→∀h∈nw,h.wr=true)(hL: ∀h∈L,ar B h):
  ax aiT f args B fun r hs=> ∃nw,Q r nw∧hs=B++nw:=by
 have h:ax aiT f args ([]++L) fun r hs=> ∃nw,Q r nw∧hs=[]++nw:=ax.post hm fun r hs hq=>⟨hs,bL.refl _,hs,hq,rfl⟩
 exact ax.kX h (by simp) hQ hL
abbrev TS(s:Nat):Value:= .agg #[.int .u8 (jP s:Nat),.int .i64 (dH s:Nat),.int .i64 (FQ s:Nat),.int .i64 (bA s:Nat),.int .i64 (ey s:Nat)]
abbrev eQ:V1:=⟨.slice none 0 0,rfl⟩
theorem JT{s:Nat}(_:oU s):HW (jP s) (ey s):=by
 unfold HW jP ey;split
 ·exact .inr ⟨rfl,rfl⟩
 ·exact .inl ⟨rfl,rfl⟩
open Go Go.RX Go.Proofs Go.RX.Sh Go.RX.Fg Go.RX.Fj Go.RX.Fk Go.RX.Fm Go.Hd
def tU(h nk:Nat)(K:Nat→Int)(n:Nat)(M:Nat→Int):Nat→Int:=if h=2 then zB nk K n M else zA nk K n M
theorem Pj(h nk:Nat)(K:Nat→Int)(n:Nat)(M:Nat→Int):WV (tU h nk K n M):=by
 unfold tU;split
 ·exact O_ _ _ _ _
 ·exact O7 _ _ _ _
theorem zD{h nk:Nat}{K:Nat→Int}{n:Nat}{M M':Nat→Int}(hM: ∀j,j<n→M j=M' j):tU h nk K n M=tU h nk K n M':=by
 unfold tU;rw [HZ hM,HY hM]
def tI(h w nk:Nat)(K:Nat→Int)(n:Nat)(I:Nat→Int):Nat→Nat→Int
 | 0=>fun _=>0
 | i+1=>tU h nk K ((if i=0 then 0 else w)+n+1) (cf (if i=0 then 0 else w) (tI h w nk K n I i) (cf n I fun _=>ae .u8 ((i:Int)+1)))
def tV(h w nk:Nat)(K:Nat→Int)(n:Nat)(I:Nat→Int)(j:Nat):Int:=tI h w nk K n I (j/w+1) (j%w)
theorem tW(h w nk:Nat)(K:Nat→Int)(n:Nat)(I:Nat→Int):WV (tV h w nk K n I):=fun _=>Pj _ _ _ _ _ _
theorem LZ{h w:Nat}(hh:HW h w)(v0:V1)(n:Nat)(T:Nat→Int)(hl:n≤1024):ax aiT 130 [.int .u8 (h:Int),.slice none 0 0,v0.v] [bn false v0 n T] fun r hs=> ∃(o:V1) (N:Nat→Int),N=tU h 0 (fun _=>0) n T∧r=o.v∧hs=[bn true o w N]:=by
 refine HF _ (h:Int) (n:Int) T v0 ?_;unfold zk;intro b0;rcases hh with⟨rfl,rfl⟩ | ⟨rfl,rfl⟩
 ·refine⟨_,LW (B:=[bn false v0 n T]) b0 v0.one n T (by omega) (ar.dD 0 rfl),?_⟩;rintro x hs ⟨o,N,hN,rfl,rfl⟩;exact⟨o,32,N,rfl,rfl,o,N,hN,rfl,rfl⟩
 ·refine⟨_,LX (B:=[bn false v0 n T]) b0 v0.one n T (by omega) (ar.dD 0 rfl),?_⟩;rintro x hs ⟨o,N,hN,rfl,rfl⟩;exact⟨o,64,N,rfl,rfl,o,N,hN,rfl,rfl⟩
theorem H7{B:List HP}{h w:Nat}(hh:HW h w){x:Value}(hx:x.oneCell'=true)(n:Nat)(T:Nat→Int)(hl:n≤1024)(hb:ar B (vw x n T)):ax aiT 130 [.int .u8 (h:Int),.slice none 0 0,x] B fun r hs=> ∃(o:V1) (N:Nat→Int),N=tU h 0 (fun _=>0) n T∧r=o.v∧hs=B++[bn true o w N]:=
 CU (Q:=fun N=>N=tU h 0 (fun _=>0) n T) (LZ hh ⟨x,hx⟩ n T hl) (iB hb)
theorem Pk{f:Nat}{args:List Value}{a k:HP}{B:List HP}{n:Nat}{Q:(Nat→Int)→Prop}(hm:ax aiT f args ([a]++k::B) fun r hs=> ∃(o:V1) (N:Nat→Int),Q N∧r=o.v∧hs=[a]++k::B++[bn true o n N]):
  ax aiT f args (k::a::B) fun r hs=> ∃(o:V1) (N:Nat→Int),Q N∧r=o.v∧hs=k::a::B++[bn true o n N]:=by
 refine ax.post (ax.pre hm (bL.perm (List.Perm.swap _ _ _))) ?_;rintro r hs ⟨o,N,hN,hr,rfl⟩;exact⟨_,bL.perm (List.Perm.swap _ _ _),o,N,hN,hr,rfl⟩
theorem bL.JU{v:V1}{L n:Nat}{A N:Nat→Int}(h:n≤L)(hn:0<n)(hA: ∀j,j<n→A j=N j):bL [bn true v L A] [bn true ⟨aC 1 v.v 0 n (some n),aX 1 v.v 0 n (some n)⟩ n N]:=by
 have e:=bL.part (v:=v) (t:=5) (n:=L) (m:=n) (mx:=some n) (cs:=aW L [bd .u8 1 A]) h (fun x hx=>by cases hx;omega) hn;have key:(aW L [bd .u8 1 A]).take n=aW n [bd .u8 1 N]:=by
  rw [iH,iH,dv .u8 L n _ h];exact aP .u8 n fun j hj=>hA j hj
 rw [key]at e;exact e
set_option maxHeartbeats 1000000 in
theorem H8(v0 v1:V1)(n0 n1 n2:Nat)(h0:n0≤64)(h1:n1≤1000)(hp:1≤n2)(h2:n2≤64)(T0 T1:Nat→Int):ax aiT 106 [.int .u8 1,v0.v,v1.v,.int .i64 (n2:Int)] [bn false v0 n0 T0,bn false v1 n1 T1] fun r hs=> ∃(o:V1) (N:Nat→Int),N=tV 1 32 n0 T0 n1 T1∧r= .tuple #[o.v,.int .i64 0]∧hs=[bn true o n2 N]:=by
 refine ax.post (p:=fun r hs=> ∃(v:V1) (L:Nat) (A:Nat→Int) (y:HP),n2≤L∧(∀j,j<L→A j=tV 1 32 n0 T0 n1 T1 j)∧r= .tuple #[aC 1 v.v 0 n2 (some n2),.int .i64 0]∧hs=[bn true v L A,y]) ?_ ?_;rotate_left
 ·rintro r hs ⟨v,L,A,y,hL,hA,rfl,rfl⟩;exact⟨_,bL.trans (bL.sub (List.Sublist.cons_cons _ (List.nil_sublist _))) (bL.JU (v:=v) hL (by omega) fun j hj=>hA j (by omega)),_,_,rfl,rfl,rfl⟩
 refine E8 _ (n0:Int) (n1:Int) (n2:Int) T0 T1 v0 v1 ?_;unfold wg;refine⟨fun _=>?_,fun h=>absurd h (by omega)⟩;refine⟨fun h=>absurd h (by omega),fun _=>?_⟩;refine⟨fun e=> ∃i m:Nat,(m=if i=0 then 0 else 32)∧32*i<n2+32∧e.i=[(i:Int)+1,((32*i:Nat):Int),(m:Int)]∧(∀j,j<32*i→(e.a.getD 0 fun _=>0) j=tV 1 32 n0 T0 n1 T1 j)∧∀j,j<m→(e.a.getD 1 fun _=>0) j=tI 1 32 n0 T0 n1 T1 i j,fun e=>(200 - e.i.getD 1 0).toNat,
  ⟨⟨.slice none 0 0,rfl⟩,⟨.slice none 0 0,rfl⟩,1,0,0,_,_,rfl,rfl,rfl,rfl,rfl,fun _ _=>rfl,rfl,rfl,fun _ _=>rfl,0,0,rfl,by omega,rfl,fun j hj=>absurd hj (by omega),fun j hj=>absurd hj (by omega)⟩,?_⟩
 rintro v4 v5 x3 x4 x5 A2 A3 ⟨i,m,hm,hi,hx,hA,hB⟩;simp only [ai5,and_true]at hx;obtain⟨rfl,rfl,rfl⟩:=hx;simp only [ah,aiS]at hA hB;have acC:m≤64:=by rw [hm];split<;>omega
 refine⟨by omega,fun _=>⟨fun bX=>?_,fun jI=>?_⟩⟩
 ·intro b0 b1;have hz:=qR ((i:Int)+1);have gz:ar [bn false v0 n0 T0,bn true v5 m A3,bn false v1 n1 T1,al b0 true [.int .u8 (ae .u8 ((i:Int)+1))]] (vw (.slice (some ⟨b0,0,none⟩) 1 1) 1 fun _=>(((ae .u8 ((i:Int)+1)).toNat:Nat):Int)):=
   ar.right (A:=[bn false v0 n0 T0,bn true v5 m A3,bn false v1 n1 T1]) (ar.block (b:=b0) (n:=1) (m:=1) (wr:=true) (A:=fun _=>ae .u8 ((i:Int)+1)) (T:=fun _=>(ae .u8 ((i:Int)+1)).toNat) (fun _ _=>by omega) (Nat.le_refl _))
  refine⟨_,Pk (O9 (B:=[bn false v0 n0 T0,bn true v5 m A3,bn false v1 n1 T1,al b0 true [.int .u8 (ae .u8 ((i:Int)+1))]]) b1 v5.one v1.one rfl v0.one m n1 1 n0 A3 T1 _ T0 (by omega) (by omega) (ar.dD 1 rfl) (ar.dD 2 rfl) gz (ar.dD 0 rfl)),?_⟩;rintro x hs ⟨v6,N,hN,rfl,rfl⟩;have Y5:N=tI 1 32 n0 T0 n1 T1 (i+1):=by
   rw [hN];show tU 1 n0 T0 (m+n1+1) _=tU 1 n0 T0 ((if i=0 then 0 else 32)+n1+1) _;rw [←hm];refine zD fun j hj=>?_
   unfold cf;by_cases c:j<m
   ·rw [if_pos c,if_pos c];exact hB j c
   ·rw [if_neg c,if_neg c];by_cases c2:j - m<n1
    ·rw [if_pos c2,if_pos c2]
    ·rw [if_neg c2,if_neg c2];show(((ae .u8 ((i:Int)+1)).toNat:Nat):Int)=ae .u8 ((i:Int)+1);omega
  refine⟨v6,32,N,rfl,rfl,by omega,fun _=>⟨by omega,fun _=>⟨by omega,fun _=>?_⟩⟩⟩;intro v7;refine⟨by omega,fun _=>⟨by omega,fun _=>?_⟩⟩;refine⟨v7,v6,_,_,_,_,_,rfl,rfl,rfl,rfl,rfl,fun _ _=>rfl,rfl,rfl,fun _ _=>rfl,⟨i+1,32,by rw [if_neg (by omega)],by omega,?_,fun j hj=>?_,fun j hj=>?_⟩,?_⟩
  ·simp only [ai5,and_true];omega
  ·simp only [ah];unfold ay;by_cases c:j<32*i
   ·rw [if_neg (by omega)];exact hA j c
   ·rw [if_pos (by omega),Y5];unfold tV;rw [show j/32+1=i+1 by omega,show j%32=j - ag ((32*i:Nat):Int) by omega]
  ·simp only [ah,aiS];rw [Y5]
  ·simp only [ah,aiS];omega
 ·refine⟨by omega,fun _=>⟨by omega,fun _=>?_⟩⟩;exact⟨v4,32*i,A2,_,by omega,hA,rfl,rfl⟩
set_option maxHeartbeats 1000000 in
theorem H9(v0 v1:V1)(n0 n1 n2:Nat)(h0:n0≤64)(h1:n1≤1000)(hp:1≤n2)(h2:n2≤64)(T0 T1:Nat→Int):ax aiT 106 [.int .u8 2,v0.v,v1.v,.int .i64 (n2:Int)] [bn false v0 n0 T0,bn false v1 n1 T1] fun r hs=> ∃(o:V1) (N:Nat→Int),N=tV 2 64 n0 T0 n1 T1∧r= .tuple #[o.v,.int .i64 0]∧hs=[bn true o n2 N]:=by
 refine ax.post (p:=fun r hs=> ∃(v:V1) (L:Nat) (A:Nat→Int) (y:HP),n2≤L∧(∀j,j<L→A j=tV 2 64 n0 T0 n1 T1 j)∧r= .tuple #[aC 1 v.v 0 n2 (some n2),.int .i64 0]∧hs=[bn true v L A,y]) ?_ ?_;rotate_left
 ·rintro r hs ⟨v,L,A,y,hL,hA,rfl,rfl⟩;exact⟨_,bL.trans (bL.sub (List.Sublist.cons_cons _ (List.nil_sublist _))) (bL.JU (v:=v) hL (by omega) fun j hj=>hA j (by omega)),_,_,rfl,rfl,rfl⟩
 refine E9 _ (n0:Int) (n1:Int) (n2:Int) T0 T1 v0 v1 ?_;unfold wh;refine⟨fun _=>?_,fun h=>absurd h (by omega)⟩;refine⟨fun h=>absurd h (by omega),fun _=>?_⟩;refine⟨fun e=> ∃i m:Nat,(m=if i=0 then 0 else 64)∧64*i<n2+64∧e.i=[(i:Int)+1,((64*i:Nat):Int),(m:Int)]∧(∀j,j<64*i→(e.a.getD 0 fun _=>0) j=tV 2 64 n0 T0 n1 T1 j)∧∀j,j<m→(e.a.getD 1 fun _=>0) j=tI 2 64 n0 T0 n1 T1 i j,fun e=>(200 - e.i.getD 1 0).toNat,
  ⟨⟨.slice none 0 0,rfl⟩,⟨.slice none 0 0,rfl⟩,1,0,0,_,_,rfl,rfl,rfl,rfl,rfl,fun _ _=>rfl,rfl,rfl,fun _ _=>rfl,0,0,rfl,by omega,rfl,fun j hj=>absurd hj (by omega),fun j hj=>absurd hj (by omega)⟩,?_⟩
 rintro v4 v5 x3 x4 x5 A2 A3 ⟨i,m,hm,hi,hx,hA,hB⟩;simp only [ai5,and_true]at hx;obtain⟨rfl,rfl,rfl⟩:=hx;simp only [ah,aiS]at hA hB;have acC:m≤64:=by rw [hm];split<;>omega
 refine⟨by omega,fun _=>⟨fun bX=>?_,fun jI=>?_⟩⟩
 ·intro b0 b1;have hz:=qR ((i:Int)+1);have gz:ar [bn false v0 n0 T0,bn true v5 m A3,bn false v1 n1 T1,al b0 true [.int .u8 (ae .u8 ((i:Int)+1))]] (vw (.slice (some ⟨b0,0,none⟩) 1 1) 1 fun _=>(((ae .u8 ((i:Int)+1)).toNat:Nat):Int)):=
   ar.right (A:=[bn false v0 n0 T0,bn true v5 m A3,bn false v1 n1 T1]) (ar.block (b:=b0) (n:=1) (m:=1) (wr:=true) (A:=fun _=>ae .u8 ((i:Int)+1)) (T:=fun _=>(ae .u8 ((i:Int)+1)).toNat) (fun _ _=>by omega) (Nat.le_refl _))
  refine⟨_,Pk (Pb (B:=[bn false v0 n0 T0,bn true v5 m A3,bn false v1 n1 T1,al b0 true [.int .u8 (ae .u8 ((i:Int)+1))]]) b1 v5.one v1.one rfl v0.one m n1 1 n0 A3 T1 _ T0 (by omega) (by omega) (ar.dD 1 rfl) (ar.dD 2 rfl) gz (ar.dD 0 rfl)),?_⟩;rintro x hs ⟨v6,N,hN,rfl,rfl⟩;have Y5:N=tI 2 64 n0 T0 n1 T1 (i+1):=by
   rw [hN];show tU 2 n0 T0 (m+n1+1) _=tU 2 n0 T0 ((if i=0 then 0 else 64)+n1+1) _;rw [←hm];refine zD fun j hj=>?_
   unfold cf;by_cases c:j<m
   ·rw [if_pos c,if_pos c];exact hB j c
   ·rw [if_neg c,if_neg c];by_cases c2:j - m<n1
    ·rw [if_pos c2,if_pos c2]
    ·rw [if_neg c2,if_neg c2];show(((ae .u8 ((i:Int)+1)).toNat:Nat):Int)=ae .u8 ((i:Int)+1);omega
  refine⟨v6,64,N,rfl,rfl,by omega,fun _=>⟨by omega,fun _=>⟨by omega,fun _=>?_⟩⟩⟩;intro v7;refine⟨by omega,fun _=>⟨by omega,fun _=>?_⟩⟩;refine⟨v7,v6,_,_,_,_,_,rfl,rfl,rfl,rfl,rfl,fun _ _=>rfl,rfl,rfl,fun _ _=>rfl,⟨i+1,64,by rw [if_neg (by omega)],by omega,?_,fun j hj=>?_,fun j hj=>?_⟩,?_⟩
  ·simp only [ai5,and_true];omega
  ·simp only [ah];unfold ay;by_cases c:j<64*i
   ·rw [if_neg (by omega)];exact hA j c
   ·rw [if_pos (by omega),Y5];unfold tV;rw [show j/64+1=i+1 by omega,show j%64=j - ag ((64*i:Nat):Int) by omega]
  ·simp only [ah,aiS];rw [Y5]
  ·simp only [ah,aiS];omega
 ·refine⟨by omega,fun _=>⟨by omega,fun _=>?_⟩⟩;exact⟨v4,64*i,A2,_,by omega,hA,rfl,rfl⟩
theorem Pl{h w:Nat}(hh:HW h w)(v0 v1:V1)(n0 n1 n2:Nat)(h0:n0≤64)(h1:n1≤1000)(hp:1≤n2)(h2:n2≤64)(T0 T1:Nat→Int):ax aiT 106 [.int .u8 (h:Int),v0.v,v1.v,.int .i64 (n2:Int)] [bn false v0 n0 T0,bn false v1 n1 T1] fun r hs=> ∃(o:V1) (N:Nat→Int),N=tV h w n0 T0 n1 T1∧r= .tuple #[o.v,.int .i64 0]∧hs=[bn true o n2 N]:=by
 rcases hh with⟨rfl,rfl⟩ | ⟨rfl,rfl⟩
 ·exact H8 v0 v1 n0 n1 n2 h0 h1 hp h2 T0 T1
 ·exact H9 v0 v1 n0 n1 n2 h0 h1 hp h2 T0 T1
theorem u7{B:List HP}{h w:Nat}(hh:HW h w){x0 x1:Value}(hx0:x0.oneCell'=true)(GY:x1.oneCell'=true)(n0 n1 n2:Nat)(h0:n0≤64)(h1:n1≤1000)(hp:1≤n2)(h2:n2≤64)(T0 T1:Nat→Int)(g0:ar B (vw x0 n0 T0))(g1:ar B (vw x1 n1 T1)):
  ax aiT 106 [.int .u8 (h:Int),x0,x1,.int .i64 (n2:Int)] B fun r hs=> ∃nw,(∃(o:V1) (N:Nat→Int),N=tV h w n0 T0 n1 T1∧r= .tuple #[o.v,.int .i64 0]∧nw=[bn true o n2 N])∧hs=B++nw:=by
 refine iP (Pl hh ⟨x0,hx0⟩ ⟨x1,GY⟩ n0 n1 n2 h0 h1 hp h2 T0 T1) ?_ (EY g0 g1);rintro v nw ⟨o,N,_,_,rfl⟩ h hh;simp only [ai0,aiZ,or_false]at hh;subst hh;rfl
def o_(L:List Int)(n:Nat)(aY s:Int)(j:Nat):Int:=
 if j<n then jL L j else if j<n+8 then ae .u8 (ak .shr .u64 aY (8*(7 - ((j - n:Nat):Int))))else au (au (fun _=>0) 0 (ae .u8 (ak .shr .u16 s 8))) 1 (ae .u8 s) (j - (n+8))
def L0:List Int:=[83,70,114,97,109,101,32,49,46,48,32,83,101,99,114,101,116,32,107,101,121,32]
def BI:List Int:=[83,70,114,97,109,101,32,49,46,48,32,83,101,99,114,101,116,32,115,97,108,116,32]
theorem Sg(x0 x1:Int):ax aiT 107 [.string ⟨#[83,70,114,97,109,101,32,49,46,48,32,83,101,99,114,101,116,32,107,101,121,32]⟩,.int .u64 x0,.int .u16 x1] [] fun r hs=> ∃(o:V1) (N:Nat→Int),N=o_ L0 22 x0 x1∧r=o.v∧hs=[bn true o 32 N]:=by
 refine ax.post (p:=fun r hs=> ∃(o:V1) (N:Nat→Int) (y:HP),(∀j,j<32→N j=o_ L0 22 x0 x1 j)∧r=o.v∧hs=[bn true o 32 N,y]) ?_ ?_;rotate_left
 ·rintro r hs ⟨o,N,y,hN,rfl,rfl⟩;exact⟨_,bL.sub (List.Sublist.cons_cons _ (List.nil_sublist _)),o,_,rfl,rfl,by unfold bn;rw [bJ hN]⟩
 refine OS _ x0 x1 ?_;unfold E_;intro v0;refine⟨fun e=> ∃i:Nat,i≤8∧e.i=[7 - (i:Int),((22+i:Nat):Int)]∧∀j,j<22+i→(e.a.getD 0 fun _=>0) j=o_ L0 22 x0 x1 j,fun e=>(e.i.getD 0 0+1).toNat,⟨v0,7,22,_,rfl,rfl,rfl,rfl,fun _ _=>rfl,0,by omega,rfl,fun j hj=>by unfold o_;rw [if_pos (by omega)];rfl⟩,?_⟩;rintro v1 x2 x3 A0 ⟨i,hi,hx,hA⟩;simp only [ai5,and_true]at hx;obtain⟨rfl,rfl⟩:=hx;simp only [ah]at hA;refine⟨fun jI=>?_,fun bX=>?_⟩
 ·iterate 3 refine⟨by omega,fun _=>?_⟩
  intro b0
  iterate 2 refine⟨by omega,fun _=>?_⟩
  intro v2
  iterate 2 refine⟨by omega,fun _=>?_⟩
  refine⟨v2,_,_,_,rfl,rfl,rfl,rfl,fun _ _=>rfl,⟨i+1,by omega,?_,fun j hj=>?_⟩,?_⟩
  ·simp only [ai5,and_true];omega
  ·simp only [ah];rw [aiX];unfold au;by_cases c:j=22+i
   ·rw [if_pos c];unfold o_;rw [if_neg (by omega),if_pos (by omega),show j - 22=i by omega]
   ·rw [if_neg c];exact hA j (by omega)
  ·simp only [ah];omega
 ·intro b0
  iterate 2 refine⟨by omega,fun _=>?_⟩
  intro v2;have:i=8:=by omega
  subst this;refine⟨v2,_,_,fun j hj=>?_,rfl,rfl⟩;unfold ay;by_cases c:j<22+8
  ·rw [if_neg (by omega)];exact hA j c
  ·rw [if_pos (by omega)];unfold o_;rw [if_neg (by omega),if_neg (by omega)];rfl
theorem Si(x0 x1:Int):ax aiT 107 [.string ⟨#[83,70,114,97,109,101,32,49,46,48,32,83,101,99,114,101,116,32,115,97,108,116,32]⟩,.int .u64 x0,.int .u16 x1] [] fun r hs=> ∃(o:V1) (N:Nat→Int),N=o_ BI 23 x0 x1∧r=o.v∧hs=[bn true o 33 N]:=by
 refine ax.post (p:=fun r hs=> ∃(o:V1) (N:Nat→Int) (y:HP),(∀j,j<33→N j=o_ BI 23 x0 x1 j)∧r=o.v∧hs=[bn true o 33 N,y]) ?_ ?_;rotate_left
 ·rintro r hs ⟨o,N,y,hN,rfl,rfl⟩;exact⟨_,bL.sub (List.Sublist.cons_cons _ (List.nil_sublist _)),o,_,rfl,rfl,by unfold bn;rw [bJ hN]⟩
 refine OT _ x0 x1 ?_;unfold Fa;intro v0;refine⟨fun e=> ∃i:Nat,i≤8∧e.i=[7 - (i:Int),((23+i:Nat):Int)]∧∀j,j<23+i→(e.a.getD 0 fun _=>0) j=o_ BI 23 x0 x1 j,fun e=>(e.i.getD 0 0+1).toNat,⟨v0,7,23,_,rfl,rfl,rfl,rfl,fun _ _=>rfl,0,by omega,rfl,fun j hj=>by unfold o_;rw [if_pos (by omega)];rfl⟩,?_⟩;rintro v1 x2 x3 A0 ⟨i,hi,hx,hA⟩;simp only [ai5,and_true]at hx;obtain⟨rfl,rfl⟩:=hx;simp only [ah]at hA;refine⟨fun jI=>?_,fun bX=>?_⟩
 ·iterate 3 refine⟨by omega,fun _=>?_⟩
  intro b0
  iterate 2 refine⟨by omega,fun _=>?_⟩
  intro v2
  iterate 2 refine⟨by omega,fun _=>?_⟩
  refine⟨v2,_,_,_,rfl,rfl,rfl,rfl,fun _ _=>rfl,⟨i+1,by omega,?_,fun j hj=>?_⟩,?_⟩
  ·simp only [ai5,and_true];omega
  ·simp only [ah];rw [aiX];unfold au;by_cases c:j=23+i
   ·rw [if_pos c];unfold o_;rw [if_neg (by omega),if_pos (by omega),show j - 23=i by omega]
   ·rw [if_neg c];exact hA j (by omega)
  ·simp only [ah];omega
 ·intro b0
  iterate 2 refine⟨by omega,fun _=>?_⟩
  intro v2;have:i=8:=by omega
  subst this;refine⟨v2,_,_,fun j hj=>?_,rfl,rfl⟩;unfold ay;by_cases c:j<23+8
  ·rw [if_neg (by omega)];exact hA j c
  ·rw [if_pos (by omega)];unfold o_;rw [if_neg (by omega),if_neg (by omega)];rfl
def pc(s n:Nat)(T:Nat→Int):Nat→Int:=tU (jP s) 0 (fun _=>0) n T
def L4(s aY n:Nat)(T:Nat→Int):Nat→Int:=tV (jP s) (ey s) (ey s) (pc s n T) 32 (o_ L0 22 (aY:Int) (s:Int))
def BJ(s aY n:Nat)(T:Nat→Int):Nat→Int:=tV (jP s) (ey s) (ey s) (pc s n T) 33 (o_ BI 23 (aY:Int) (s:Int))
def acD(s n:Nat)(T:Nat→Int)(r:Value)(hs:List HP):Prop:=
 (oU s∧1≤n∧n≤1024∧∃o:V1,r= .tuple #[TS s,o.v,.int .i64 0]∧hs=[bn true o (ey s) (pc s n T)])∨
 ((¬oU s∨n=0∨1024<n)∧∃a b c d e f:Int,f=(if 1≤s∧s≤5 then 2 else 130)∧r= .tuple #[.agg #[.int .u8 a,.int .i64 b,.int .i64 c,.int .i64 d,.int .i64 e],.slice none 0 0,.int .i64 f]∧hs=[bn true eQ 0 fun _=>0])
theorem CX(s:Nat):oU s↔1≤s∧s≤5:=by unfold oU;omega
theorem FU(s:Nat)(v0:V1)(n:Nat)(T:Nat→Int):ax aiT 105 [.int .u16 (s:Int),v0.v] [bn false v0 n T] (acD s n T):=by
 refine ax.post (p:=fun r hs=>(oU s∧1≤n∧n≤1024∧∃o:V1,r= .tuple #[TS s,o.v,.int .i64 0]∧hs=[bn true o (ey s) (pc s n T)])∨
  ((¬oU s∨n=0∨1024<n)∧∃a b c d e f:Int,f=(if 1≤s∧s≤5 then 2 else 130)∧r= .tuple #[.agg #[.int .u8 a,.int .i64 b,.int .i64 c,.int .i64 d,.int .i64 e],.slice none 0 0,.int .i64 f])) ?_ ?_
 rotate_left
 ·rintro r hs (h | ⟨h1,a,b,c,d,e,f,hf,rfl⟩)
  ·exact⟨_,bL.refl _,.inl h⟩
  ·exact⟨_,bL.trans (bL.sub (List.nil_sublist _)) bL.mO,.inr ⟨h1,a,b,c,d,e,f,hf,rfl,rfl⟩⟩
 refine LF _ (s:Int) (n:Int) T v0 ?_;unfold Bv;intro b0;refine⟨_,wB s,?_⟩;rintro x hs ⟨hr,rfl⟩;rcases hr with⟨gQ,rfl⟩ | ⟨hn,rfl⟩
 ·refine⟨_,_,_,_,_,_,rfl,rfl,fun b1=>⟨fun h=>absurd rfl h,fun _=>?_⟩⟩;refine⟨by omega,fun _=>⟨by omega,fun _=>⟨fun hc=>?_,fun hn=>?_⟩⟩⟩
  ·exact .inr ⟨.inr (by omega),_,_,_,_,_,2,by rw [if_pos ((CX s).1 gQ)],rfl⟩
  ·refine⟨_,H7 (B:=[bn false v0 n T]) (JT gQ) v0.one n T (by omega) (ar.dD 0 rfl),?_⟩;rintro x hs ⟨o,N,hN,rfl,rfl⟩;subst hN;exact⟨o,(ey s:Nat),_,rfl,rfl,.inl ⟨gQ,by omega,by omega,o,rfl,rfl⟩⟩
 ·refine⟨_,_,_,_,_,_,rfl,rfl,fun b1=>⟨fun h=>?_,fun h=>absurd (by decide) h⟩⟩;exact .inr ⟨.inl hn,_,_,_,_,_,_,by rw [if_neg fun h=>hn ((CX s).2 h)],rfl⟩
abbrev FV(s aY:Nat)(o:V1)(S:Nat→Int):Value:= .agg (.int .u16 (s:Int)::(.int .u64 (aY:Int)::(o.v::(aiL (aj .u8 12 S) [])))).toArray
def Sj(s aY n:Nat)(T:Nat→Int)(r:Value)(hs:List HP):Prop:=
 (oU s∧1≤n∧n≤1024∧∃o:V1,r= .tuple #[FV s aY o (BJ s aY n T),.int .i64 0]∧hs=[bn true o (dH s) (L4 s aY n T)])∨
 ((¬oU s∨n=0∨1024<n)∧∃e:Int,e=(if 1≤s∧s≤5 then 2 else 130)∧r= .tuple #[FV 0 0 eQ fun _=>0,.int .i64 e]∧hs=[bn true eQ 0 fun _=>0])
theorem FX(s aY:Nat)(v0:V1)(n:Nat)(T:Nat→Int):ax aiT 77 [.int .u16 (s:Int),v0.v,.int .u64 (aY:Int)] [bn false v0 n T] (Sj s aY n T):=by
 refine ax.post (p:=fun r hs=>(oU s∧1≤n∧n≤1024∧∃o:V1,r= .tuple #[FV s aY o (BJ s aY n T),.int .i64 0]∧hs[6]? =some (bn true o (dH s) (L4 s aY n T)))∨
  ((¬oU s∨n=0∨1024<n)∧∃e:Int,e=(if 1≤s∧s≤5 then 2 else 130)∧r= .tuple #[FV 0 0 eQ fun _=>0,.int .i64 e])) ?_ ?_
 rotate_left
 ·rintro r hs (⟨gQ,ha,hb,o,rfl,h6⟩ | ⟨h1,e,he,rfl⟩)
  ·refine⟨_,bL.idx [6] (by decide) ?_,.inl ⟨gQ,ha,hb,o,rfl,rfl⟩⟩;intro m u hu
   match m,hu with
   | 0,hu=>cases hu;exact⟨6,rfl,h6⟩
   | m+1,hu=>simp at hu
  ·exact⟨_,bL.trans (bL.sub (List.nil_sublist _)) bL.mO,.inr ⟨h1,e,he,rfl,rfl⟩⟩
 refine LG _ (s:Int) (n:Int) (aY:Int) T v0 ?_;unfold Bw;intro b0;refine⟨_,iP (B:=[bn false v0 n T]) (FU s v0 n T) ?_ (iB (ar.dD 0 rfl)),?_⟩
 ·rintro v nw (⟨_,_,_,o,_,rfl⟩ | ⟨_,_,_,_,_,_,_,_,_,rfl⟩) h hh
  ·simp only [ai0,aiZ,or_false]at hh;subst hh;rfl
  ·simp only [ai0,aiZ,or_false]at hh;subst hh;rfl
 rintro x hs ⟨nw,(⟨gQ,ha,hb,o,rfl,rfl⟩ | ⟨h1,a,b,c,d,e,f,hf,rfl,rfl⟩),rfl⟩
 ·refine⟨o,_,_,_,_,_,_,(ey s:Nat),pc s n T,rfl,rfl,fun b1=>⟨fun h=>absurd rfl h,fun _=>?_⟩⟩;have o8:ey s≤64:=by unfold ey;split<;>omega
  have KJ:1≤dH s∧dH s≤64:=by unfold dH;split<;>(try split)<;>omega
  intro b2;refine⟨_,Sg (aY:Int) (s:Int),?_⟩;rintro x hs ⟨v2,N2,hN2,rfl,rfl⟩;refine⟨v2,32,N2,rfl,rfl,?_⟩;refine⟨_,u7 (B:=[bn true o (ey s) (pc s n T),bn true v2 32 N2]) (JT gQ) o.one v2.one (ey s) 32 (dH s) o8 (by omega) KJ.1 KJ.2 (pc s n T) N2 (ar.dD 0 rfl) (ar.dD 1 rfl),?_⟩;rintro x hs ⟨nw,⟨v3,N3,h3,rfl,rfl⟩,rfl⟩;refine⟨v3,(dH s:Nat),N3,rfl,rfl,?_⟩;refine⟨_,Si (aY:Int) (s:Int),?_⟩;rintro x hs ⟨v4,N4,hN4,rfl,rfl⟩;refine⟨v4,33,N4,rfl,rfl,?_⟩;refine⟨_,u7 (B:=[bn true o (ey s) (pc s n T),bn true v4 33 N4]) (JT gQ) o.one v4.one (ey s) 33 12 o8 (by omega) (by decide) (by decide) (pc s n T) N4 (ar.dD 0 rfl) (ar.dD 1 rfl),?_⟩;rintro x hs ⟨nw,⟨v5,N5,h5,rfl,rfl⟩,rfl⟩;refine⟨v5,N5,rfl,rfl,?_⟩;subst hN2;subst hN4;subst h3;subst h5;exact .inl ⟨gQ,ha,hb,v3,rfl,rfl⟩
 ·have hf0: ¬f=0:=by rw [hf];split<;>decide
  refine⟨eQ,_,_,_,_,_,_,0,fun _=>0,rfl,rfl,fun b1=>⟨fun _=>?_,fun h=>absurd hf0 h⟩⟩;exact .inr ⟨h1,f,hf,rfl⟩
end Go.RX.Fq

namespace Go.Se
open Go.Hd Go.Gh Go.Gc Go.Ae Go.RX Go.RX.Sh Go.RX.Fk Go.RX.Fi
def u_(s:Nat)(N:Nat→Nat)(na:Nat)(A:Nat→Nat)(nt:Nat)(Y:Nat→Nat):Nat→Nat:=
 fu 8 (fi na) (fu 8 (fi nt) (fu 8 (fi (bA s)) (fu 12 N (fu na A Y))))
theorem Sk{s:Nat}{N A Y:Nat→Nat}(hN: ∀j,N j<256)(hA: ∀j,A j<256)(hY: ∀j,Y j<256)(na nt:Nat): ∀j,u_ s N na A nt Y j<256:=
 jz (CL _) (jz (CL _) (jz (CL _) (jz hN (jz hA hY _) _) _) _) _
def gO(s:Nat)(K N:Nat→Nat)(na:Nat)(A:Nat→Nat)(nt:Nat)(Y:Nat→Nat):Nat→Nat:=
 CP 32 (fun j=>K (16+j)) (8+8+8+12+na+nt) (u_ s N na A nt Y)
theorem zE(s:Nat)(K N:Nat→Nat)(na:Nat)(A:Nat→Nat)(nt:Nat)(Y:Nat→Nat)(j:Nat):gO s K N na A nt Y j<256:=R3 _ _ _ _ j
theorem H_{s:Nat}{N A A':Nat→Nat}{na nt:Nat}{Y Y':Nat→Nat}(hA: ∀j,j<na→A j=A' j)(hY: ∀j,j<nt→Y j=Y' j):
  ∀j,j<8+8+8+12+na+nt→u_ s N na A nt Y j=u_ s N na A' nt Y' j:=by
 intro j hj;unfold u_ fu;split
 ·rfl
 split
 ·rfl
 split
 ·rfl
 split
 ·rfl
 split
 ·rename_i c;exact hA _ c
 ·exact hY _ (by omega)
theorem FY{s:Nat}{K N A A':Nat→Nat}{na nt:Nat}{Y Y':Nat→Nat}(hA: ∀j,j<na→A j=A' j)(hY: ∀j,j<nt→Y j=Y' j):gO s K N na A nt Y=gO s K N na A' nt Y':=
 HK (H_ hA hY)
def ug(s:Nat):Nat:=if s=5 then 8 else 4
def jb(s:Nat)(K N T:Nat→Nat):Nat→Nat:=if 4≤s then d_ (ug s) K N T else eZ 4 K (eP N 0) T
theorem FZ{s:Nat}{K N T:Nat→Nat}(hK: ∀j,K j<256)(hN: ∀j,N j<256)(hT: ∀j,T j<256)(j:Nat):jb s K N T j<256:=by
 unfold jb;split
 ·exact tL hK hN hT j
 ·exact Ae.tF 4 K _ _ hK (jy hN (by decide)) hT j
def zF(s:Nat)(K N:Nat→Nat)(na:Nat)(A:Nat→Nat)(nt:Nat)(T:Nat→Nat):Nat→Nat:=
 if 4≤s then jO (ug s) K N na A nt T else fu nt (jb s K N T) (gO s K N na A nt (jb s K N T))
theorem Sl{s:Nat}{K N T:Nat→Nat}(hK: ∀j,K j<256)(hN: ∀j,N j<256)(hT: ∀j,T j<256)(na:Nat)(A:Nat→Nat)(nt j:Nat):zF s K N na A nt T j<256:=by
 unfold zF;split
 ·exact OK hK hN hT _ _ _ _
 ·exact jz (FZ hK hN hT) (zE _ _ _ _ _ _ _) _ _
def L5(s:Nat)(K N:Nat→Nat)(na:Nat)(A:Nat→Nat)(m:Nat)(T:Nat→Nat):Prop:=
 bA s≤m∧(if 4≤s then∀j,j<16→lv (ug s) K N na A (m - 16) T j=T (m - 16+j)else∀j,j<bA s→gO s K N na A (m - bA s) T j=T (m - bA s+j))
theorem F0{s:Nat}(_:oU s)(h4:4≤s)(K N:Nat→Nat)(na:Nat)(A:Nat→Nat)(m:Nat)(T:Nat→Nat):L5 s K N na A m T↔opens (ug s) K N na A m T:=by
 have ht:bA s=16:=by
  unfold bA;rw [if_neg (by omega),if_neg (by omega),if_neg (by omega)]
 unfold L5 opens;rw [if_pos h4,ht]
open Classical in
noncomputable def jc(s kn na nt:Nat):Nat:=if¬oU s then 130 else if kn≠dH s then 2 else if 1024<na then 3 else if 65536<nt then 3 else 0
noncomputable def JV(s kn aY br na nt:Nat):Nat:=if jc s kn na nt=0 then bS aY br+(nt+bA s)else 0
def L6(aY br:Nat)(A:Nat→Nat):Nat→Nat:=fu (bS aY br) (dM aY br) A
theorem VE{A:Nat→Nat}(aY br:Nat)(hA: ∀j,A j<256)(j:Nat):L6 aY br A j<256:=jz (tT aY br) hA _ j
def jB(s:Nat)(K S:Nat→Nat)(aY br na:Nat)(A:Nat→Nat)(nt:Nat)(T:Nat→Nat):Nat→Nat:=
 fu (bS aY br) (dM aY br) (zF s K (bu S br) (bS aY br+na) (L6 aY br A) nt T)
theorem Pm{s:Nat}{K S T:Nat→Nat}(hK: ∀j,K j<256)(hS: ∀j,S j<256)(hT: ∀j,T j<256)(aY br na:Nat)(A:Nat→Nat)(nt j:Nat):jB s K S aY br na A nt T j<256:=
 jz (tT aY br) (Sl hK (u6 hS br) hT _ _ _) _ j
def hlen(F:Nat→Nat):Nat:=1+nk F+nc F
theorem Sm{F:Nat→Nat}(hF: ∀j,F j<256):hlen F≤17:=by
 have:=TR (hF 0);have:=Pc F;unfold hlen;omega
def cD(F:Nat→Nat):Nat→Nat:=fun j=>F (hlen F+j)
def rh(F A:Nat→Nat):Nat→Nat:=fu (hlen F) F A
theorem VF{F A:Nat→Nat}(hF: ∀j,F j<256)(hA: ∀j,A j<256)(j:Nat):rh F A j<256:=jz hF hA _ j
def j7(s:Nat)(K S:Nat→Nat)(na:Nat)(A:Nat→Nat)(m:Nat)(F:Nat→Nat):Prop:=
 L5 s K (bu S (aZ F)) (hlen F+na) (rh F A) (m - hlen F) (cD F)
open Classical in
noncomputable def fT(s kn aY:Nat)(K S:Nat→Nat)(na:Nat)(A:Nat→Nat)(m:Nat)(F:Nat→Nat):Nat:=
 if¬oU s then 130 else if kn≠dH s then 2 else if 1024<na then 3 else if¬qk m F then 9 else if bV F≠aY then 4 else if 65536+bA s<m - hlen F then 3 else
 if j7 s K S na A m F then 0 else 140
noncomputable def F1(s kn aY:Nat)(K S:Nat→Nat)(na:Nat)(A:Nat→Nat)(m:Nat)(F:Nat→Nat):Nat:=if fT s kn aY K S na A m F=0 then m - hlen F - bA s else 0
def wD(s:Nat)(K S F:Nat→Nat):Nat→Nat:=jb s K (bu S (aZ F)) (cD F)
noncomputable def F2(s kn aY:Nat)(K S:Nat→Nat)(na:Nat)(A:Nat→Nat)(m:Nat)(F:Nat→Nat):Nat:=if fT s kn aY K S na A m F=0 then aZ F else 0
theorem Sn{s kn na nt:Nat}(h:jc s kn na nt=0):oU s∧kn=dH s∧na≤1024∧nt≤65536:=by
 unfold jc at h;split at h
 ·exact absurd h (by decide)
 rename_i c1;split at h
 ·exact absurd h (by decide)
 rename_i c2;split at h
 ·exact absurd h (by decide)
 split at h
 ·exact absurd h (by decide)
 exact⟨ai4.1 c1,by omega,by omega,by omega⟩
end Go.Se

namespace Go.RX.Fm
open Go Go.RX Go.Proofs Go.RX.Sh Go.RX.Fg Go.RX.Fi Go.RX.Fj Go.RX.Fk Go.Hd Go.Gh Go.Gc Go.Ae Go.RX.Fe Go.Se
theorem acE(n m:Nat)(A B:Nat→Nat):ay (fun j=>((A j:Nat):Int)) n m (fun j=>((B j:Nat):Int))=fun j=>if j<n then((A j:Nat):Int)else if j<n+m then((B (j - n):Nat):Int)else((A j:Nat):Int):=by
 funext j;unfold ay;by_cases c:j<n
 ·rw [if_neg (by omega),if_pos c]
 ·rw [if_neg c];by_cases c2:j<n+m
  ·rw [if_pos (by omega),if_pos c2]
  ·rw [if_neg (by omega),if_neg c2]
theorem si(N:Nat→Nat):(Value.agg (aiL (aj .u8 16 (ay (fun _=>0) 0 12 fun j=>((N j:Nat):Int))) []).toArray)=bY (eP N 0):=by
 unfold bY;rw [ajp,List.append_nil];refine congrArg (fun l:List Value=>Value.agg l.toArray) (aP .u8 16 fun j hj=>?_);unfold ay eP;by_cases c:j<12
 ·rw [if_pos (by omega),if_pos c];rfl
 ·rw [if_neg (by omega),if_neg c];split<;>rfl
theorem BK{s kn na nt:Nat}(h: ¬oU s):jc s kn na nt=130:=by unfold jc;rw [if_pos h]
theorem So{s kn na nt:Nat}(h:oU s)(h2:kn≠dH s):jc s kn na nt=2:=by unfold jc;rw [if_neg (ai4.2 h),if_pos h2]
theorem Sp{s kn na nt:Nat}(h:oU s)(h2:kn=dH s)(h3:1024<na):jc s kn na nt=3:=by unfold jc;rw [if_neg (ai4.2 h),if_neg (ai4.2 h2),if_pos h3]
theorem Sq{s kn na nt:Nat}(h:oU s)(h2:kn=dH s)(h3: ¬1024<na)(h4:65536<nt):jc s kn na nt=3:=by unfold jc;rw [if_neg (ai4.2 h),if_neg (ai4.2 h2),if_neg h3,if_pos h4]
theorem zG{s kn na nt:Nat}(h:oU s)(h2:kn=dH s)(h3: ¬1024<na)(h4: ¬65536<nt):jc s kn na nt=0:=by unfold jc;rw [if_neg (ai4.2 h),if_neg (ai4.2 h2),if_neg h3,if_neg h4]
def Pn(s kn aY br na nt:Nat)(K S A T:Nat→Nat)(r:Value)(hs:List HP):Prop:=
 ∃o:V1,r= .tuple #[o.v,.int .i64 (jc s kn na nt:Nat)]∧hs=[aq true o (JV s kn aY br na nt) (jB s K S aY br na A nt T)]
theorem L7(b:Nat)(N:Nat→Nat):al b true (aiL (aj .u8 12 fun j=>((N j:Nat):Int)) [])=al b true (aj .u8 12 fun j=>((N j:Nat):Int)):=by rw [ajp,List.append_nil]
theorem VG(s:Nat)(N:Nat→Nat)(na:Nat)(A:Nat→Nat)(nt:Nat)(Y:Nat→Nat):
  (∀j,j<8→fi na j=u_ s N na A nt Y (0+j))∧(∀j,j<8→fi nt j=u_ s N na A nt Y (8+j))∧(∀j,j<8→fi (bA s) j=u_ s N na A nt Y (8+8+j))∧(∀j,j<12→N j=u_ s N na A nt Y (8+8+8+j))∧
  (∀j,j<na→A j=u_ s N na A nt Y (8+8+8+12+j))∧(∀j,j<nt→Y j=u_ s N na A nt Y (8+8+8+12+na+j)):=by
 unfold u_;refine⟨fun j hj=>?_,fun j hj=>?_,fun j hj=>?_,fun j hj=>?_,fun j hj=>?_,fun j hj=>?_⟩
 ·rw [Nat.zero_add,i_ hj]
 ·rw [bO,i_ hj]
 ·rw [show 8+8+j=8+(8+j) by omega,bO,bO,i_ hj]
 ·rw [show 8+8+8+j=8+(8+(8+j)) by omega,bO,bO,bO,i_ hj]
 ·rw [show 8+8+8+12+j=8+(8+(8+(12+j))) by omega,bO,bO,bO,bO,i_ hj]
 ·rw [show 8+8+8+12+na+j=8+(8+(8+(12+(na+j)))) by omega,bO,bO,bO,bO,bO]
theorem sj(b Dn:Nat)(v0:V1)(K:Nat→Nat)(hK: ∀j,K j<256)(md:Bool)(v7 v8 v9 va:V1)(xy:Value)(X7:xy.oneCell'=true)(vy:V1)(ny:Nat)(Yy:Nat→Nat)(s:Nat)(N:Nat→Nat)(na:Nat)(A:Nat→Nat)(nt:Nat)(Y:Nat→Nat)(hN: ∀j,N j<256)(hA: ∀j,A j<256)(hY: ∀j,Y j<256)(hl:na+nt+1000≤140737488355328)
  (gy:ar [aq md vy ny Yy] (aH xy nt Y)):
  ax aiT 64 [.int .u8 1,aC 1 v0.v 16 48 none,.slice (some ⟨b,0,none⟩) 6 6] [aq false v0 48 K,al b true [v7.v,v8.v,v9.v,.slice (some ⟨Dn,0,none⟩) 12 12,va.v,xy],aq true v7 8 (fi na),aq true v8 8 (fi nt),aq true v9 8 (fi (bA s)),al Dn true (aiL (aj .u8 12 fun j=>((N j:Nat):Int)) []),aq true va na A,aq md vy ny Yy]
   fun r hs=> ∃o:V1,r=o.v∧hs=[aq false v0 48 K,al b true [v7.v,v8.v,v9.v,.slice (some ⟨Dn,0,none⟩) 12 12,va.v,xy],aq true v7 8 (fi na),aq true v8 8 (fi nt),aq true v9 8 (fi (bA s)),al Dn true (aiL (aj .u8 12 fun j=>((N j:Nat):Int)) []),aq true va na A,aq md vy ny Yy,aq true o 32 (gO s K N na A nt Y)]:=by
 have hm:=VG s N na A nt Y;have bk:ar [aq false v0 48 K] (aH (aC 1 v0.v 16 48 none) 32 fun j=>K (16+j)):=
  ar.part (lo:=16) (hi:=48) (mx:=none) (ar.view (v:=v0) (n:=48) (T:=K)) (by decide) (by decide) (by simp)
 have bn:ar [al Dn true (aiL (aj .u8 12 fun j=>((N j:Nat):Int)) [])] (aH (.slice (some ⟨Dn,0,none⟩) 12 12) 12 N):=by
  rw [L7];exact ar.block (fun _ _=>rfl) (Nat.le_refl _)
 have h:=HU (B:=[aq false v0 48 K,aq true v7 8 (fi na),aq true v8 8 (fi nt),aq true v9 8 (fi (bA s)),al Dn true (aiL (aj .u8 12 fun j=>((N j:Nat):Int)) []),aq true va na A,aq md vy ny Yy]) b (x0:=v7.v) (x1:=v8.v) (x2:=v9.v) (x3:= .slice (some ⟨Dn,0,none⟩) 12 12) (x4:=va.v) (x5:=xy) (xk:=aC 1 v0.v 16 48 none) v7.one v8.one v9.one rfl va.one X7 (aX ..) 8 8 8 12 na nt (fi na) (fi nt) (fi (bA s)) N A Y (u_ s N na A nt Y) (fun j=>K (16+j)) (Sk hN hA hY na nt) (fun j=>hK _) hm.1 hm.2.1 hm.2.2.1 hm.2.2.2.1 hm.2.2.2.2.1 hm.2.2.2.2.2 (by omega)
  (ar.get 1 rfl) (ar.get 2 rfl) (ar.get 3 rfl) (ar.mid (A:=[aq false v0 48 K,aq true v7 8 (fi na),aq true v8 8 (fi nt),aq true v9 8 (fi (bA s))]) (C:=[aq true va na A,aq md vy ny Yy]) bn) (ar.get 5 rfl)
  (ar.right (A:=[aq false v0 48 K,aq true v7 8 (fi na),aq true v8 8 (fi nt),aq true v9 8 (fi (bA s)),al Dn true (aiL (aj .u8 12 fun j=>((N j:Nat):Int)) []),aq true va na A]) gy)
  (ar.left (C:=[aq true v7 8 (fi na),aq true v8 8 (fi nt),aq true v9 8 (fi (bA s)),al Dn true (aiL (aj .u8 12 fun j=>((N j:Nat):Int)) []),aq true va na A,aq md vy ny Yy]) bk)
 refine ax.post (ax.pre h (bL.perm (List.Perm.swap _ _ _))) ?_;rintro r hs ⟨o,hr,rfl⟩;exact⟨_,bL.perm (List.Perm.swap _ _ _),o,hr,rfl⟩
set_option maxHeartbeats 4000000 in
theorem F3(s aY br kn na nt:Nat)(v0 v1 v2:V1)(K S A T:Nat→Nat)(hK: ∀j,K j<256)(hS: ∀j,S j<256)(hA: ∀j,A j<256)(hT: ∀j,T j<256)(Po:aY<18446744073709551616)(L8:br<18446744073709551616):
  ax aiT 8 [.agg (.int .u16 (s:Int):: .int .u64 (aY:Int)::v0.v::(aiL (aj .u8 12 fun j=>((S j:Nat):Int)) [])).toArray,.int .u64 (br:Int),v1.v,v2.v] [aq false v0 kn K,aq false v1 na A,aq false v2 nt T] (Pn s kn aY br na nt K S A T):=by
 refine ax.post (p:=fun r hs=>(jc s kn na nt≠0∧r= .tuple #[.slice none 0 0,.int .i64 (jc s kn na nt:Nat)])∨(jc s kn na nt=0∧∃o:V1,r= .tuple #[o.v,.int .i64 0]∧hs[8]? =some (aq true o (bS aY br+(nt+bA s)) (jB s K S aY br na A nt T)))) ?_ ?_;rotate_left
 ·rintro r hs (⟨h,rfl⟩ | ⟨h,o,rfl,h8⟩)
  ·refine⟨_,bL.trans (bL.sub (List.nil_sublist _)) (bL.mO (t:=5)),⟨.slice none 0 0,rfl⟩,rfl,?_⟩;unfold JV;rw [if_neg h];rfl
  ·refine⟨_,bL.JE 8 h8,o,by rw [h];rfl,?_⟩;unfold JV;rw [if_pos h]
 refine Mw _ (s:Int) (aY:Int) (br:Int) (kn:Int) (na:Int) (nt:Int) (fun j=>(K j:Nat)) (fun j=>(S j:Nat)) (fun j=>(A j:Nat)) (fun j=>(T j:Nat)) v0 v1 v2 ?_;unfold Dq;intro b0 b1 b2;refine⟨_,wC s,?_⟩;rintro x hs ⟨⟨gQ,rfl⟩ | ⟨gQ,rfl⟩,rfl⟩;rotate_left
 ·refine⟨0,0,0,0,0,130,rfl,rfl,?_⟩;intro b3;refine⟨fun _ b4=> .inl ⟨?_,?_⟩,fun h=>absurd h (by decide)⟩
  ·rw [BK gQ];decide
  ·rw [BK gQ];rfl
 refine⟨(jP s:Nat),(dH s:Nat),(FQ s:Nat),(bA s:Nat),(ey s:Nat),0,rfl,rfl,?_⟩;intro b3;refine⟨fun h=>absurd rfl h,fun _=>⟨by omega,fun _=>⟨fun hk b4=> .inl ?_,fun hk=>⟨by omega,fun _=>⟨fun h3 b4=> .inl ?_,fun h3 b4=>⟨by omega,fun _=>⟨fun h4=> .inl ?_,fun h4=>?_⟩⟩⟩⟩⟩⟩⟩
 ·have:=So (na:=na) (nt:=nt) gQ (show kn≠dH s by omega);exact⟨by rw [this];decide,by rw [this];rfl⟩
 ·have:=Sp (na:=na) (nt:=nt) gQ (show kn=dH s by omega) (by omega);exact⟨by rw [this];decide,by rw [this];rfl⟩
 ·have:=Sq (na:=na) (nt:=nt) gQ (show kn=dH s by omega) (by omega) (by omega);exact⟨by rw [this];decide,by rw [this];rfl⟩
 have yz:kn=dH s:=by omega
 have nZ:=zG (na:=na) (nt:=nt) gQ yz (by omega) (by omega);have hhl:=zC aY br;have hH:=tT aY br;have hN:=u6 hS br;have TU:=VE aY br hA;refine⟨_,BH aY br Po L8,?_⟩;rintro x hs ⟨v3,rfl,rfl⟩;refine⟨v3,(bS aY br:Nat),fun j=>(dM aY br j:Nat),rfl,rfl,?_⟩;intro b5 b6 b7;have wV:=fun(v0:V1)=>wA s aY br v0 S hS L8
 refine⟨fun hg b8=>?_,fun hg=>?_⟩
 ·
  have rI:4≤s:=by
   rcases gQ with h | h | h | h | h<;>subst h<;>first | (exact absurd hg (by decide)) | decide
  have BC:kn=4*ug s:=by
   rw [yz];rcases gQ with h | h | h | h | h<;>subst h<;>first | (exact absurd rI (by decide)) | rfl
  have Pp:bA s=16:=by
   rcases gQ with h | h | h | h | h<;>subst h<;>first | (exact absurd rI (by decide)) | rfl
  refine⟨_,fX (B:=[aq true v3 (bS aY br) (dM aY br),aq false v1 na A]) b8 v3.one v1.one (bS aY br) na (dM aY br) A (by omega) (ar.get 0 rfl) (ar.get 1 rfl),?_⟩;rintro x hs ⟨v4,rfl,rfl⟩;refine⟨v4,(bS aY br+na:Nat),fun j=>(L6 aY br A j:Nat),rfl,rfl,?_⟩;refine⟨_,wV v0,?_⟩;rintro x hs ⟨rfl,rfl⟩;refine⟨fun j=>(bu S br j:Nat),rfl,rfl,?_⟩;refine⟨fun r hs=> ∃o:V1,r= .tuple #[o.v,.int .i64 0]∧hs=[aq false v0 kn K,aq true v4 (bS aY br+na) (L6 aY br A),aq false v2 nt T]++[aq true o (nt+16) (jO (ug s) K (bu S br) (bS aY br+na) (L6 aY br A) nt T)],?_,?_⟩
  ·by_cases c5:s=5
   ·have e8:ug s=8:=by unfold ug;rw [if_pos c5]
    rw [e8]at BC ⊢;subst BC;exact Ax v0.one v4.one v2.one K (bu S br) (L6 aY br A) T hK hN TU hT (bS aY br+na) nt (by omega) (ar.get 0 rfl) (ar.get 1 rfl) (ar.get 2 rfl)
   ·have e8:ug s=4:=by unfold ug;rw [if_neg c5]
    rw [e8]at BC ⊢;subst BC;exact As v0.one v4.one v2.one K (bu S br) (L6 aY br A) T hK hN TU hT (bS aY br+na) nt (by omega) (ar.get 0 rfl) (ar.get 1 rfl) (ar.get 2 rfl)
  rintro x hs ⟨v5,rfl,rfl⟩;refine⟨v5,(nt+16:Nat),0,fun j=>(jO (ug s) K (bu S br) (bS aY br+na) (L6 aY br A) nt T j:Nat),rfl,rfl,?_⟩
  iterate 3 refine⟨by omega,fun _=>?_⟩
  refine⟨by omega,fun _ v6=> .inr ⟨nZ,v6,rfl,?_⟩⟩;show some (aG true 5 1 v6.v _ _)=_;congr 1;unfold aq;rw [show ag (((bS aY br:Nat):Int)+((nt+16:Nat):Int))=bS aY br+(nt+bA s) by omega,aiX,aiX];congr 1;refine bJ fun j hj=>?_
  unfold jB zF;rw [if_pos rI,acE];dsimp only;unfold fu;by_cases c:j<bS aY br
  ·rw [if_pos c,if_pos c]
  ·rw [if_neg c,if_neg c,if_pos (by omega)]
 ·
  have rI: ¬4≤s:=by
   rcases gQ with h | h | h | h | h<;>subst h<;>first | (exact absurd rfl hg) | decide
  have VH:FQ s=16:=by
   rcases gQ with h | h | h | h | h<;>subst h<;>first | (exact absurd (by decide) rI) | rfl
  have Y6:dH s=48:=by
   rcases gQ with h | h | h | h | h<;>subst h<;>first | (exact absurd (by decide) rI) | rfl
  have eh:jP s=1:=by
   rcases gQ with h | h | h | h | h<;>subst h<;>first | (exact absurd (by decide) rI) | rfl
  have et:bA s≤10:=by
   rcases gQ with h | h | h | h | h<;>subst h<;>first | (exact absurd (by decide) rI) | decide
  rw [VH,eh];have Y7:kn=48:=by rw [yz,Y6]
  have ti:ag ((16:Nat):Int)=16:=rfl;refine⟨by omega,fun _=>⟨by omega,fun _=>?_⟩⟩;have Y8:ar [aq false v0 kn K] (aH (aC 1 v0.v 0 16 none) 16 K):=by
   have:=ar.part (lo:=0) (hi:=16) (mx:=none) (ar.view (v:=v0) (n:=kn) (T:=K)) (by decide) (by omega) (by simp);simp only [Nat.zero_add]at this;exact this
  refine⟨_,ql (B:=[aq false v0 kn K]) (aX ..) K hK Y8,?_⟩;rintro x hs ⟨b8,v4,rfl,rfl⟩;refine⟨b8,v4,(4*(4+7):Nat),fun j=>(sb j:Nat),cw 4 K,rfl,rfl,?_⟩;intro b9 Qd ZW S6;refine⟨_,fX (B:=[aq true v3 (bS aY br) (dM aY br),aq false v1 na A]) S6 v3.one v1.one (bS aY br) na (dM aY br) A (by omega) (ar.get 0 rfl) (ar.get 1 rfl),?_⟩;rintro x hs ⟨v5,rfl,rfl⟩;refine⟨v5,(bS aY br+na:Nat),fun j=>(L6 aY br A j:Nat),rfl,rfl,?_⟩;intro Qe;refine⟨_,wV v0,?_⟩;rintro x hs ⟨rfl,rfl⟩;refine⟨fun j=>(bu S br j:Nat),rfl,rfl,?_⟩;intro Mk Ml;rw [si];have hC:=jy hN (c:=0) (by decide);refine⟨_,gM (B:=[aq false v2 nt T]) v2.one b8 Ml v4 4 (by decide) (by decide) K (eP (bu S br) 0) T hK hC hT nt (by omega) ar.view,?_⟩;rintro x hs ⟨v6,rfl,rfl⟩;have eY:eZ 4 K (eP (bu S br) 0) T=jb s K (bu S br) T:=by unfold jb;rw [if_neg rI]
  have hY:=FZ (s:=s) hK hN hT;rw [eY];refine⟨v6,(nt:Nat),fun j=>(jb s K (bu S br) T j:Nat),rfl,rfl,?_⟩;refine⟨_,wV v0,?_⟩;rintro x hs ⟨rfl,rfl⟩;refine⟨fun j=>(bu S br j:Nat),rfl,rfl,?_⟩;intro Dn;refine⟨by omega,fun _=>⟨by omega,fun _=>?_⟩⟩;refine⟨_,jA (bS aY br+na),?_⟩;rintro x hs ⟨v7,rfl,rfl⟩;refine⟨v7,fun j=>(fi (bS aY br+na) j:Nat),rfl,rfl,?_⟩;refine⟨_,jA nt,?_⟩;rintro x hs ⟨v8,rfl,rfl⟩;refine⟨v8,fun j=>(fi nt j:Nat),rfl,rfl,?_⟩;refine⟨_,jA (bA s),?_⟩;rintro x hs ⟨v9,rfl,rfl⟩;refine⟨v9,fun j=>(fi (bA s) j:Nat),rfl,rfl,?_⟩;intro S7;have t48:ag (kn:Int)=48:=by omega
  dsimp only [bo,bi,bn];rw [t48];refine⟨_,sj S7 Dn v0 K hK true v7 v8 v9 v5 v6.v v6.one v6 nt (jb s K (bu S br) T) s (bu S br) (bS aY br+na) (L6 aY br A) nt (jb s K (bu S br) T) hN TU hY (by omega) ar.bytes,?_⟩;rintro x hs ⟨v10,rfl,rfl⟩;refine⟨v10,(32:Nat),fun j=>(gO s K (bu S br) (bS aY br+na) (L6 aY br A) nt (jb s K (bu S br) T) j:Nat),rfl,rfl,?_⟩;refine⟨by omega,fun _=>⟨by omega,fun _=>⟨by omega,fun _ v11=>⟨by omega,fun _=>⟨by omega,fun _=>⟨by omega,fun _=>⟨by omega,fun _ m_=> .inr ⟨nZ,m_,rfl,?_⟩⟩⟩⟩⟩⟩⟩⟩;show some (aG true 5 1 m_.v _ _)=_;congr 1;unfold aq;rw [show ag (((bS aY br:Nat):Int)+((nt:Int)+((bA s:Nat):Int)))=bS aY br+(nt+bA s) by omega,show ag ((nt:Int)+((bA s:Nat):Int))=nt+bA s by omega,aiX,aiX,aiX];congr 1;refine bJ fun j hj=>?_
  unfold jB zF;rw [if_neg rI];unfold ay fu;by_cases c:j<bS aY br
  ·rw [if_neg (by omega),if_pos c]
  ·rw [if_pos (by omega),if_neg c];by_cases c2:j - bS aY br<nt
   ·rw [if_neg (by omega),if_pos c2]
   ·rw [if_pos (by omega),if_neg c2]
end Go.RX.Fm
