/- 'May a state be stored'. -/
import Derived.Test.YtllcdnkfbeokhaaGreatM32
import Derived.Test.YtllcdnkfbeokhaaGreatM35
open Go.IntKind renaming wrap → ae
open Go.Proofs.Tryz renaming prog → auN
open Int renaming toNat → ag, toNat_natCast → auD
open List renaming append → aul, getD_cons_zero → ah, getElem?_eq_some_iff → aup, getLast?_eq_some_iff → au9, length_append → aum, length_singleton → aun, mem_append → auE, mem_range → auG, mem_singleton → auz
namespace Go.RX.Vb
open Go Go.RX Go.Proofs Go.Vs
set_option maxHeartbeats 1000000
theorem N0{v:V1}(s:List (List Nat)){n m:Int}(hl:s.length<256^4)(hn:n=(s.length:Int))(hm:m=256){R:Int→Prop}(h: ∀a:Int,R a):
  ∃post,aq auN 70 [.int .i64 m,v.v] [aB false 36 16 v.v (ag n) (aM (ag n) [ay .u8 16 (cq (fun x=>x) s)])] post∧
   ∀x hs,post x hs→∃y:Int,x=(cN y)∧hs=[aB false 36 16 v.v (ag n) (aM (ag n) [ay .u8 16 (cq (fun x=>x) s)])]∧R y:=by
 subst hn hm;refine⟨fun r hs=>hs=[aB false 36 16 v.v (ag (s.length:Int)) (aM (ag (s.length:Int)) [ay .u8 16 (cq (fun x=>x) s)])]∧∃a:Int,r=cN a,?_,?_⟩
 ·refine Wh _ (s.length:Int) (cq (fun x=>x) s) (fun _=>0) v ?_;unfold Ld;intro b0;refine⟨by omega,fun _=>?_⟩;refine⟨fun x=> ∃(i:Nat) (z:Int) (v2:V1) (A2:Nat→Int),x=⟨[],[v2],[(i:Int),z],[A2],[],[],[]⟩∧i≤s.length∧0≤z∧z≤256,fun x=>s.length - (x.i.getD 0 0).toNat,?_,?_⟩
  ·exact⟨⟨.slice none 0 0,rfl⟩,_,_,fun _=>0,rfl,rfl,rfl,rfl,fun _ _=>rfl,0,0,_,_,rfl,by omega,by omega,by omega⟩
  rintro v2 x1 x2 _ ⟨i,z,v2,A2,hx,hi,h0,h1⟩;simp only [Ext.mk.injEq,List.cons.injEq,and_true,true_and]at hx;obtain⟨rfl,⟨rfl,rfl⟩,rfl⟩:=hx;refine⟨fun cF=>?_,fun mn=>⟨rfl,(b0:Nat)+1,by rw [eY]⟩⟩;refine⟨by omega,fun _=>?_⟩;intro b1 b2 b3 b4 b5;refine⟨by omega,fun _=>?_⟩;refine⟨fun e=>0≤e.i.getD 0 0,fun e=>(x2 - e.i.getD 0 0).toNat,⟨0,rfl,Int.le_refl _⟩,?_⟩;intro x3 h3;simp only [ah]at h3;refine⟨fun ajC=>⟨by omega,fun _=>⟨fun _=>⟨by omega,fun _=>⟨by omega,fun _=>⟨by omega,fun _=>fun v3=>⟨v3,((i+1:Nat):Int),x2,_,by simp,rfl,rfl,rfl,fun _ _=>rfl,⟨i+1,x2,v3,_,rfl,by omega,by omega,by omega⟩,by simp;omega⟩⟩⟩⟩,fun _=>⟨by omega,fun _=>⟨by omega,fun _=>⟨_,rfl,?_,?_⟩⟩⟩⟩⟩,fun ajD=>?_⟩
  ·simp only [ah];omega
  ·simp only [ah];omega
  ·intro b6;refine⟨by omega,fun _=>⟨by omega,fun _=>fun v3=>⟨by omega,fun _=>⟨by omega,fun _=>⟨by omega,fun _=>⟨fun hov=>⟨by omega,fun _=>⟨by omega,fun _=>⟨fun hz=>absurd hz (by omega),fun _=>⟨by omega,fun _=>⟨by omega,fun _=>⟨by omega,fun _=>⟨by omega,fun _=>⟨by omega,fun _=>⟨by omega,fun _=>⟨by omega,fun _=>⟨by omega,fun _=>⟨by omega,fun _=>fun v4=>⟨v4,((i+1:Nat):Int),(x2+1) - ((x2+1) - 256),_,by simp,rfl,rfl,rfl,fun _ _=>rfl,⟨i+1,(x2+1) - ((x2+1) - 256),v4,_,rfl,by omega,by omega,by omega⟩,by simp;omega⟩⟩⟩⟩⟩⟩⟩⟩⟩⟩⟩⟩⟩,fun Ij=>⟨by omega,fun _=>⟨by omega,fun _=>⟨by omega,fun _=>fun v4=>⟨v4,((i+1:Nat):Int),x2+1,_,by simp,rfl,rfl,rfl,fun _ _=>rfl,⟨i+1,x2+1,v4,_,rfl,by omega,by omega,by omega⟩,by simp;omega⟩⟩⟩⟩⟩⟩⟩⟩⟩⟩
 ·rintro x hs ⟨rfl,a,rfl⟩;exact⟨a,rfl,rfl,h a⟩
theorem N1{v:V1}(s:List jl){n m:Int}(hl:s.length<256^4)(hn:n=(s.length:Int))(hm:m=4){R:Int→Prop}(h: ∀a:Int,R a):
  ∃post,aq auN 72 [.int .i64 m,v.v] [aB false 26 2 v.v (ag n) (aM (ag n) [ay .u8 1 (bN jl.a s),ay .u8 1 (bN jl.d s)])] post∧
   ∀x hs,post x hs→∃y:Int,x=(cN y)∧hs=[aB false 26 2 v.v (ag n) (aM (ag n) [ay .u8 1 (bN jl.a s),ay .u8 1 (bN jl.d s)])]∧R y:=by
 subst hn hm;refine⟨fun r hs=>hs=[aB false 26 2 v.v (ag (s.length:Int)) (aM (ag (s.length:Int)) [ay .u8 1 (bN jl.a s),ay .u8 1 (bN jl.d s)])]∧∃a:Int,r=cN a,?_,?_⟩
 ·refine Wi _ (s.length:Int) (bN jl.a s) (bN jl.d s) v ?_;unfold Lf;intro b0;refine⟨by omega,fun _=>?_⟩;refine⟨fun x=> ∃(i:Nat) (z:Int) (v2:V1) (A2 A3:Nat→Int),x=⟨[],[v2],[(i:Int),z],[A2,A3],[],[],[]⟩∧i≤s.length∧0≤z∧z≤4,fun x=>s.length - (x.i.getD 0 0).toNat,?_,?_⟩
  ·exact⟨⟨.slice none 0 0,rfl⟩,_,_,fun _=>0,fun _=>0,rfl,rfl,rfl,rfl,fun _ _=>rfl,fun _ _=>rfl,0,0,_,_,_,rfl,by omega,by omega,by omega⟩
  rintro v2 x1 x2 _ _ ⟨i,z,v2,A2,A3,hx,hi,h0,h1⟩;simp only [Ext.mk.injEq,List.cons.injEq,and_true,true_and]at hx;obtain⟨rfl,⟨rfl,rfl⟩,rfl,rfl⟩:=hx;refine⟨fun cF=>?_,fun mn=>⟨rfl,(b0:Nat)+1,by rw [eY]⟩⟩;refine⟨by omega,fun _=>?_⟩;intro b1 b2 b3 b4 b5;refine⟨by omega,fun _=>?_⟩;refine⟨fun e=>0≤e.i.getD 0 0,fun e=>(x2 - e.i.getD 0 0).toNat,⟨0,rfl,Int.le_refl _⟩,?_⟩;intro x3 h3;simp only [ah]at h3;refine⟨fun ajC=>⟨by omega,fun _=>⟨fun _=>⟨by omega,fun _=>⟨by omega,fun _=>⟨by omega,fun _=>fun v3=>⟨v3,((i+1:Nat):Int),x2,_,_,by simp,rfl,rfl,rfl,fun _ _=>rfl,fun _ _=>rfl,⟨i+1,x2,v3,_,_,rfl,by omega,by omega,by omega⟩,by simp;omega⟩⟩⟩⟩,fun _=>⟨by omega,fun _=>⟨by omega,fun _=>⟨_,rfl,?_,?_⟩⟩⟩⟩⟩,fun ajD=>?_⟩
  ·simp only [ah];omega
  ·simp only [ah];omega
  ·intro b6;refine⟨by omega,fun _=>⟨by omega,fun _=>fun v3=>⟨by omega,fun _=>⟨by omega,fun _=>⟨by omega,fun _=>⟨fun hov=>⟨by omega,fun _=>⟨by omega,fun _=>⟨fun hz=>absurd hz (by omega),fun _=>⟨by omega,fun _=>⟨by omega,fun _=>⟨by omega,fun _=>⟨by omega,fun _=>⟨by omega,fun _=>⟨by omega,fun _=>⟨by omega,fun _=>⟨by omega,fun _=>⟨by omega,fun _=>fun v4=>⟨v4,((i+1:Nat):Int),(x2+1) - ((x2+1) - 4),_,_,by simp,rfl,rfl,rfl,fun _ _=>rfl,fun _ _=>rfl,⟨i+1,(x2+1) - ((x2+1) - 4),v4,_,_,rfl,by omega,by omega,by omega⟩,by simp;omega⟩⟩⟩⟩⟩⟩⟩⟩⟩⟩⟩⟩⟩,fun Ij=>⟨by omega,fun _=>⟨by omega,fun _=>⟨by omega,fun _=>fun v4=>⟨v4,((i+1:Nat):Int),x2+1,_,_,by simp,rfl,rfl,rfl,fun _ _=>rfl,fun _ _=>rfl,⟨i+1,x2+1,v4,_,_,rfl,by omega,by omega,by omega⟩,by simp;omega⟩⟩⟩⟩⟩⟩⟩⟩⟩⟩
 ·rintro x hs ⟨rfl,a,rfl⟩;exact⟨a,rfl,rfl,h a⟩
theorem Sm{v:V1}{n:Int}{A:Nat→Int}{R:V1→Prop}(h0:0≤n)(h1:n≤256^4)(h: ∀o:V1,R o):
  ∃post,aq auN 117 [v.v] [aB false 5 1 v.v (ag n) (aM (ag n) [ay .u8 1 A])] post∧
   ∀x hs,post x hs→∃v2:V1,x=v2.v∧hs=[aB false 5 1 v.v (ag n) (aM (ag n) [ay .u8 1 A])]∧R v2:=by
 refine⟨fun r hs=> ∃o:V1,r=o.v∧hs=[aB false 5 1 v.v (ag n) (aM (ag n) [ay .u8 1 A])],?_,?_⟩
 ·refine aaj _ n A v ?_;unfold R0;exact⟨fun _=>⟨⟨.slice none 0 0,rfl⟩,rfl,rfl⟩,fun _=>fun v1=>⟨h0,fun _=>⟨h0,fun _=>⟨by omega,fun _=>fun v2=>⟨v2,rfl,rfl⟩⟩⟩⟩⟩
 ·rintro x hs ⟨o,rfl,rfl⟩;exact⟨o,rfl,rfl,h o⟩
theorem AY(a:Nat)(m:List Nat)(cM:Int):sf a m cM=true↔a<8∧1≤m.length∧m.length≤4∧ -1≤cM∧cM<(m.length:Int)∧∀x∈m,1≤x∧x≤4:=by
 simp [sf,and_assoc]
theorem Sn{v:V1}(m:List Nat){n a cM:Int}{acc:Nat}(hm:m.length<256^4)(ha:a=(acc:Int))(hn:n=(m.length:Int)){R:Int→Int→Prop}(h: ∀y e:Int,(e=0↔sf acc m cM=true)→R y e):
  ∃post,aq auN 71 [.int .u8 a,v.v,.int .i64 cM] [aB false 5 1 v.v (ag n) (aM (ag n) [ay .u8 1 (aI m)])] post∧
   ∀x hs,post x hs→∃y1:Int,∃y2:Int,x= .tuple #[(cN y1),.int .i64 y2]∧hs=[aB false 5 1 v.v (ag n) (aM (ag n) [ay .u8 1 (aI m)])]∧R y1 y2:=by
 subst ha hn;refine⟨fun r hs=>hs=[aB false 5 1 v.v (ag (m.length:Int)) (aM (ag (m.length:Int)) [ay .u8 1 (aI m)])]∧∃y e:Int,r= .tuple #[cN y,.int .i64 e]∧(e=0↔sf acc m cM=true),?_,?_⟩
 ·have Av:=aai (fun r hs=>hs=[]∧∃y e:Int,r= .tuple #[cN y,.int .i64 e]∧(e=0↔sf acc m cM=true)) (acc:Int) cM (m.length:Int) (aI m) v (by
   have no: ∀(_: ¬(acc<8∧1≤m.length∧m.length≤4∧ -1≤cM∧cM<(m.length:Int)∧∀x∈m,1≤x∧x≤4)),([]:List HP)=[]∧∃y e:Int,Value.tuple #[.pointer none,.int .i64 2]= .tuple #[cN y,.int .i64 e]∧(e=0↔sf acc m cM=true):=
    fun h=>⟨rfl,0,2,rfl,by rw [AY];exact⟨fun h2=>by omega,fun h2=>absurd h2 h⟩⟩
   unfold RY;refine⟨by omega,fun _=>⟨fun hb=>no (by omega),fun hb=>?_⟩⟩;intro b0;refine⟨fun x=> ∃(i:Nat) (v2:V1) (A:Nat→Int),x=⟨[],[v2],[(i:Int),(i:Int)],[A],[],[],[]⟩∧i≤m.length,fun x=>m.length - (x.i.getD 0 0).toNat,?_,?_⟩
   ·exact⟨⟨.slice none 0 0,rfl⟩,_,_,fun _=>0,rfl,rfl,rfl,rfl,fun _ _=>rfl,0,_,_,rfl,by omega⟩
   rintro v2 x3 x4 A1 ⟨i,v2,A1,hx,hi⟩;simp only [Ext.mk.injEq,List.cons.injEq,and_true,true_and]at hx;obtain⟨rfl,⟨rfl,rfl⟩,rfl⟩:=hx;refine⟨fun cF=>?_,fun mn=>?_⟩
   ·intro b1;exact⟨by omega,fun _=>⟨by omega,fun _=>fun v3=>⟨by omega,fun _=>⟨by omega,fun _=>⟨v3,((i+1:Nat):Int),((i+1:Nat):Int),_,by simp,rfl,rfl,by simp,fun _ _=>rfl,⟨i+1,v3,_,rfl,by omega⟩,by simp;omega⟩⟩⟩⟩⟩
   ·refine⟨.inr (by omega),fun _=>⟨fun DO=>no (by omega),fun DO=>⟨by omega,fun _=>?_⟩⟩⟩;refine⟨fun x=> ∃j:Nat,x=⟨[],[],[(j:Int)],[],[],[],[]⟩∧j≤m.length∧∀x∈m.take j,1≤x∧x≤4,fun x=>m.length - (x.i.getD 0 0).toNat,⟨0,rfl,0,rfl,by omega,by simp⟩,?_⟩;rintro x5 ⟨j,hx,hj,nW⟩;simp only [Ext.mk.injEq,List.cons.injEq,and_true,true_and]at hx;subst hx;refine⟨fun cF=>?_,fun mn=>?_⟩
    ·have lq:j<m.length:=by omega
     simp only [auD];rw [gj lq];refine⟨by omega,fun _=>⟨fun Zf=>⟨trivial,(no fun hh=>?_).2⟩,fun Zf=>⟨by omega,fun _=>⟨by omega,fun _=>⟨((j+1:Nat):Int),by simp,⟨j+1,rfl,by omega,?_⟩,by simp;omega⟩⟩⟩⟩⟩
     ·have:=hh.2.2.2.2.2 _ (List.getElem_mem lq);omega
     ·rw [iN _ _ lq];intro x hx;rcases auE.1 hx with hx | hx
      ·exact nW x hx
      ·rw [auz.1 hx];omega
    ·refine Sm (by omega) (by omega) fun v3=>?_
     refine⟨rfl,(b0:Nat)+1,0,by rw [eY],?_⟩;rw [AY];refine⟨fun _=>?_,fun _=>rfl⟩;have:j=m.length:=by omega
     subst this;rw [List.take_length]at nW;exact⟨by omega,by omega,by omega,by omega,by omega,nW⟩)
  refine(aq.pre (aq.frame Av [aR false v.v m]) (bI.dup rfl [])).post ?_;rintro r hs ⟨lP,rfl,rfl,h⟩;exact⟨_,bI.refl _,rfl,h⟩
 ·rintro x hs ⟨rfl,y,e,rfl,h'⟩;exact⟨y,e,rfl,rfl,h y e h'⟩
abbrev G4(c:Vs.Call)(cM:Int)(v0 v1 v2:Value):List Value:= .int .u8 (c.me.a:Int)::(.int .u8 (c.me.d:Int)::(aul (aj .u8 8 (aI c.dv)) (v0::(.int .u8 (c.state:Int)::(aul (aj .u8 16 (aI c.id)) (.bool (!(bi c.out==0))::(.int .u8 (c.aP:Int)::(.int .u8 (c.peer.a:Int)::(.int .u8 (c.peer.d:Int)::(aul (aj .u8 32 (aI c.own)) (aul (aj .u8 32 (aI c.dx)) (aul (aj .u8 32 (aI c.gY)) ([v1,.int .i64 cM,v2,.int .u64 (c.eO:Int),.int .u64 (c.bV:Int),.int .u64 (c.since:Int),.int .u64 (c.heard:Int),.int .u64 (c.mC:Int),.int .u32 (c.hZ:Int)])))))))))))))
theorem N3(c:Vs.Call)(cM:Int)(v0 v1 v2:V1)(h0:c.dead.length<256^4)(h1:c.marks.length<256^4)(h2:c.early.length<256^4):
  aq auN 35 [.agg (G4 c cM v0.v v1.v v2.v).toArray] [AS false v0.v c.dead,aR false v1.v c.marks,AT false v2.v c.early] fun r hs=>hs=[]∧∃a e:Int,r= .tuple #[cN a,.int .i64 e]∧(e=0↔xm c cM=true):=by
 refine aak _ (c.me.a:Int) (c.me.d:Int) (c.state:Int) (bi c.out) (c.aP:Int) (c.peer.a:Int) (c.peer.d:Int) cM (c.eO:Int) (c.bV:Int) (c.since:Int) (c.heard:Int) (c.mC:Int) (c.hZ:Int) (c.dead.length:Int) (c.marks.length:Int) (c.early.length:Int) (aI c.dv) (aI c.id) (aI c.own) (aI c.dx) (aI c.gY) (cq (fun x=>x) c.dead) (aI c.marks) (bN jl.a c.early) (bN jl.d c.early) v0 v1 v2 ?_;unfold R1;have hi:xm c cM=true↔c.dead.length≤256∧c.state≤4∧(c.state=1→sf c.aP c.marks cM=true∧c.early.length≤4):=by
  simp [xm,and_assoc];intro _ _;by_cases h:c.state=1<;>simp [h]
 intro b0 b1 b2 b3 b4;refine N0 c.dead h0 rfl rfl fun y=>?_
 refine⟨by omega,fun _=>⟨fun hb=>⟨rfl,0,2,rfl,by rw [hi];omega⟩,fun hb=>⟨fun hs=>?_,fun hs=>⟨rfl,(b4:Nat)+1,0,by rw [eY],by rw [hi];omega⟩⟩⟩⟩;refine Sn c.marks h1 rfl rfl fun y e he=>?_
 refine⟨.inr (by omega),fun _=>⟨fun DO=>⟨rfl,0,2,rfl,?_⟩,fun DO=>?_⟩⟩
 ·rw [hi,←he];omega
 ·refine N1 c.early h2 rfl rfl fun y=>?_
  refine⟨rfl,(b4:Nat)+1,0,by rw [eY],?_⟩;rw [hi,←he];omega
end Go.RX.Vb

namespace Go.RX
theorem bc.PG{t s n i c m:Nat}{v:Value}{cs:List Value}(hi:i<n)(hc:c+m≤s):bc [aB false t s v n cs] (aB false 5 1 (zP v (i*s+c) m) m ((cs.drop (i*s+c)).take m)):=by
 refine⟨rfl,fun w S hS=>?_⟩;obtain⟨⟨h0,h1⟩,hb⟩:=hS.at_ 0 _ rfl;simp only [Bool.false_eq_true,if_false]at h0;obtain⟨hlen,a,k,cp,rfl,hk,apO,kI,lX⟩:=h0;subst hk;cases a with
 | none=>have:=kI rfl;omega
 | some ad=>
  obtain⟨N4,nU⟩:=lX ad rfl;have N4:=N4 (by omega);have hle:i*s+c+m≤cs.length:=by
   have:(i+1)*s≤k*s:=Nat.mul_le_mul_right s hi;rw [Nat.succ_mul]at this;omega
  refine⟨fun b=>0<m∧S 0 b,⟨⟨by simp only [List.length_take,List.length_drop];omega,some (ad.add (i*s+c)),m,m,rfl,rfl,Nat.le_refl _,fun h=>(by cases h),?_⟩,?_⟩,fun b Ih=>⟨0,by simp,Ih.2⟩⟩
  ·intro ad' he;cases he;refine⟨fun _=>?_,fun j u hj=>?_⟩
   ·cases ad with | mk bb oo sp=>simp only at N4;subst N4;rw [fW]
   ·have hjm:j<m:=by
     have:=(aup.1 hj).1;rw [List.length_take]at this;omega
    rw [List.getElem?_take_of_lt hjm,List.getElem?_drop]at hj;rw [dM];exact nU _ u hj
  ·intro b;have:=h1 b;cases ad with | mk bb oo sp=>
   simp only at N4;subst N4;simp only [zP];rw [fW];simp only [Value.ownBlock]at this ⊢;constructor
   ·rintro ⟨h,h'⟩;exact⟨((this.1 h').1),.inr h⟩
   ·rintro ⟨h,h'⟩;rcases h' with h' | h'
    ·cases h'
    ·exact⟨h',this.2 ⟨h,.inr (by omega)⟩⟩
end Go.RX
namespace Go.RX.Vb
open Go Go.RX Go.Proofs Go.Vs
theorem G5: ∀(i:Nat) (a b:List Nat),i≤a.length→i≤b.length→a.take i=b.take i→tI a b=tI (a.drop i) (b.drop i)
 | 0,_,_,_,_,_=>rfl
 | i+1,[],_,h,_,_=>absurd h (by simp)
 | i+1,_::_,[],_,h,_=>absurd h (by simp)
 | i+1,x::a,y::b,h1,h2,h=>by
  simp only [List.take_succ_cons,List.cons.injEq]at h;obtain⟨rfl,h⟩:=h;simp only [List.drop_succ_cons];rw [←G5 i a b (by simpa using h1) (by simpa using h2) h];simp [tI]
theorem N5(v0 v1:V1)(a b:List Nat)(ha:a.length≤140737488355328):aq auN 37 [v0.v,v1.v] [aR false v0.v a,aR false v1.v b] fun r hs=>hs=[aR false v0.v a,aR false v1.v b]∧∃c:Int,r= .int .i64 c∧(0≤c↔tI a b=false):=by
 refine aag _ (a.length:Int) (b.length:Int) (aI a) (aI b) v0 v1 ?_;unfold RV;dsimp only [bh];refine⟨by omega,fun _=>⟨fun x=> ∃i:Nat,x=⟨[],[],[(i:Int)],[],[],[],[]⟩∧i≤a.length∧i≤b.length∧a.take i=b.take i,fun x=>a.length - (x.i.getD 0 0).toNat,⟨0,rfl,0,rfl,by omega,by omega,rfl⟩,?_⟩⟩;rintro x2 ⟨i,hx,h1,h2,h3⟩;simp only [Ext.mk.injEq,List.cons.injEq,and_true,true_and]at hx;subst hx;have hd:=G5 i a b h1 h2 h3;refine⟨fun cF=>⟨by omega,fun _=>⟨by omega,fun _=>⟨fun mn=>⟨rfl,1,rfl,?_⟩,fun ajE=>⟨by omega,fun _=>?_⟩⟩⟩⟩,fun mn=>⟨by omega,fun _=>⟨by omega,fun _=>⟨fun h=>⟨rfl, -1,rfl,?_⟩,fun h=>⟨rfl,0,rfl,?_⟩⟩⟩⟩⟩
 ·have hi:i<a.length:=by omega
  rw [hd,List.drop_eq_nil_of_le (show b.length≤i by omega),List.drop_eq_getElem_cons hi];simp [tI]
 ·have hi:i<a.length:=by omega
  have hj:i<b.length:=by omega
  simp only [auD];rw [gj hi,gj hj];rw [List.drop_eq_getElem_cons hi,List.drop_eq_getElem_cons hj]at hd;refine⟨fun h=>⟨trivial, -1,rfl,?_⟩,fun h=>⟨fun h'=>⟨trivial,1,rfl,?_⟩,fun h'=>⟨by omega,fun _=>⟨by omega,fun _=>⟨((i+1:Nat):Int),by simp,⟨i+1,rfl,by omega,by omega,?_⟩,by simp;omega⟩⟩⟩⟩⟩
  ·rw [hd];simp only [tI];rw [if_pos (by omega)];decide
  ·rw [hd];simp only [tI];rw [if_neg (by omega),if_pos (by omega)];decide
  ·rw [iN _ _ hi,iN _ _ hj,h3];congr 2;omega
 ·have hi:i=a.length:=by omega
  rw [hd,List.drop_eq_nil_of_le (by omega),List.drop_eq_getElem_cons (show i<b.length by omega)];simp [tI]
 ·rw [hd,List.drop_eq_nil_of_le (show a.length≤i by omega),List.drop_eq_nil_of_le (show b.length≤i by omega)];simp [tI]
end Go.RX.Vb

namespace Go.RX
theorem bc.mem{L:List HP}{h:HP}(hm:h∈L)(hw:h.wr=false):bc L h:=by
 obtain⟨a,b,rfl⟩:=List.append_of_mem hm;have:=bc.mid (A:=a) (C:=b) (bc.self hw)
 rwa [List.append_assoc]at this
theorem bI.X6{L:List HP}(hw: ∀h∈L,h.wr=false):bI L (L++L):=by
 have:=bI.views (A:=[]) (B:=L) (L:=L++L) fun h hh=>by
  rcases auE.1 hh with hh | hh<;>exact bc.mem hh (hw h hh)
 simpa using this
theorem aq.looks{P:Program}{f:Nat}{args:List Value}{L:List HP}{Q:Value→Prop}(hm:aq P f args L fun r hs=>hs=[]∧Q r)(hw: ∀h∈L,h.wr=false):aq P f args L fun r hs=>hs=L∧Q r:=by
 refine(aq.pre (aq.frame hm L) (bI.X6 hw)).post ?_;rintro r hs ⟨lP,rfl,rfl,h⟩;exact⟨_,bI.refl _,rfl,h⟩
theorem mi{P:Program}{f:Nat}{args:List Value}{L B:List HP}{Q:Value→Prop}(hm:aq P f args L fun r hs=>hs=[]∧Q r)(hL: ∀h∈L,bc B h):
  aq P f args B fun r hs=>hs=B∧Q r:=by
 have h:aq P f args ([]++L) fun r hs=> ∃nw,(Q r∧nw=[])∧hs=[]++nw:=by
  refine aq.post hm ?_;rintro r hs ⟨rfl,hr⟩;exact⟨[],bI.refl _,[],⟨hr,rfl⟩,rfl⟩
 refine aq.post (aq.XM h (by simp) ?_ hL) ?_
 ·rintro v nw ⟨_,rfl⟩ h hh;cases hh
 ·rintro r hs ⟨nw,⟨hr,rfl⟩,rfl⟩;exact⟨B,by simpa using bI.refl B,rfl,hr⟩
end Go.RX
namespace Go.RX.Vb
open Go Go.RX Go.Proofs Go.Vs
theorem Li: ∀a:List Nat,tI a a=false
 | []=>rfl
 | x::a=>by simp [tI,Li a]
theorem Di: ∀(a b c:List Nat),tI a b=true→tI b c=true→tI a c=true
 | [],[],_,h,_=>by simp [tI]at h
 | [],_::_,[],_,h=>by simp [tI]at h
 | [],_::_,_::_,_,_=>rfl
 | _::_,[],_,h,_=>by simp [tI]at h
 | _::_,_::_,[],_,h=>by simp [tI]at h
 | x::a,y::b,z::c,h1,h2=>by
  simp only [tI]at h1 h2 ⊢;by_cases e1:x<y
  ·by_cases e2:y<z
   ·rw [if_pos (by omega)]
   ·by_cases e3:z<y
    ·rw [if_neg e2,if_pos e3]at h2;cases h2
    ·rw [if_pos (by omega)]
  ·by_cases e1':y<x
   ·rw [if_neg e1,if_pos e1']at h1;cases h1
   ·rw [if_neg e1,if_neg e1']at h1;by_cases e2:y<z
    ·rw [if_pos (by omega)]
    ·by_cases e3:z<y
     ·rw [if_neg e2,if_pos e3]at h2;cases h2
     ·rw [if_neg e2,if_neg e3]at h2;rw [if_neg (by omega),if_neg (by omega)];exact Di a b c h1 h2
abbrev Wu(b:Nat)(A B:Nat→Int):HP:=oN b [.u8,.u8,.u8,.u8,.u8,.u8,.u8,.u8,.u8,.u8,.u8,.u8,.u8,.u8,.u8,.u8] true false ([.pointer none]) A (Qr [vg 1 B])
theorem G6{b0 b1:Nat}{x0 x1 x2 x3 x4 x5 x6:Int}{A0 A1 A2 A B:Nat→Int}{out:Bool}{q:Int}(hq:q=bi out)(id:List Nat)(hid: ∀j,j<16→A2 j=aI id j)(h0:A (aW (kL id))=0)(h1:B (aW (kL id))=0)(h2:A 0<8){R:Nat→Int→Int→Int→(Nat→Int)→(Nat→Int)→Bool→Prop}
  (h: ∀(b:Nat) (y1 y2:Int),R b y1 y2 x6 (aw (aw A 0 (A 0+1)) (aW (kL id)) 1) (aw B (aW (kL id)) ((b:Nat)+1)) out):
  ∃post,aq auN 38 [.pointer (some ⟨b0,0,none⟩),.agg (aul (aj .u8 16 A2) ([])).toArray,.int .u8 x6,.bool (!(q==0))] [ak b0 true (.int .u8 x0::(.int .u8 x1::(.nilIface::(aul (aj .u8 32 A0) (.int .u64 x2::((cN x3)::((cN x4)::((cN x5)::(.map (some b1)::(aul (aj .u8 16 A1) ([]))))))))))),Wu b1 A B] post∧
   ∀x hs,post x hs→∃b4:Nat,∃y1:Int,∃y2:Int,∃y3:Int,∃jX:(Nat→Int),∃k_:(Nat→Int),∃q0:Bool,x= .tuple #[.pointer (some ⟨b4,0,none⟩),.bool true]∧hs=[ak b0 true (.int .u8 x0::(.int .u8 x1::(.nilIface::(aul (aj .u8 32 A0) (.int .u64 x2::((cN x3)::((cN x4)::((cN x5)::(.map (some b1)::(aul (aj .u8 16 A1) ([]))))))))))),Wu b1 jX k_,ak b4 true ([(cN y1),(cN y2),.bool false,.bool q0,.int .u8 y3,.int .u64 0])]∧R b4 y1 y2 y3 jX k_ q0:=by
 subst hq;have hk:(List.range 16).map A2=kL id:=List.map_congr_left fun j hj=>hid j (auG.1 hj)
 refine⟨fun x hs=> ∃(b:Nat) (y1 y2:Int),x= .tuple #[.pointer (some ⟨b,0,none⟩),.bool true]∧hs=[ak b0 true (.int .u8 x0::(.int .u8 x1::(.nilIface::(aul (aj .u8 32 A0) (.int .u64 x2::((cN x3)::((cN x4)::((cN x5)::(.map (some b1)::(aul (aj .u8 16 A1) ([]))))))))))),Wu b1 (aw (aw A 0 (A 0+1)) (aW (kL id)) 1) (aw B (aW (kL id)) ((b:Nat)+1)),ak b true ([(cN y1),(cN y2),.bool false,.bool out,.int .u8 x6,.int .u64 0])],?_,?_⟩
 ·refine aq.post (aae (fun x hs=> ∃(b:Nat) (y1 y2:Int),x= .tuple #[.pointer (some ⟨b,0,none⟩),.bool true]∧List.Sublist [ak b0 true (.int .u8 x0::(.int .u8 x1::(.nilIface::(aul (aj .u8 32 A0) (.int .u64 x2::((cN x3)::((cN x4)::((cN x5)::(.map (some b1)::(aul (aj .u8 16 A1) ([]))))))))))),Wu b1 (aw (aw A 0 (A 0+1)) (aW (kL id)) 1) (aw B (aW (kL id)) ((b:Nat)+1)),ak b true ([(cN y1),(cN y2),.bool false,.bool out,.int .u8 x6,.int .u64 0])] hs) x0 x1 x2 x3 x4 x5 x6 (bi out) A0 A1 A2 A B b0 b1 ?_) ?_
  ·unfold RT;rw [hk];simp only [auD];intro b2;refine⟨fun hb=>absurd h1 hb,fun _=>⟨fun hb=>absurd h2 (by omega),fun _=>?_⟩⟩;intro b3 b4 b5 b6 b7 b8 b9 Ip KR Ue;refine⟨b6,(b5:Nat)+1,(Ue:Nat)+1,rfl,?_⟩;rw [h0,vO,eY,eY,show A 0+1 - ar .iO .i64 0 1=A 0+1 from Int.sub_zero _];exact .cons_cons _ (.cons_cons _ (.cons _ (.cons _ (.cons _ (.cons _ (.cons_cons _ .slnil))))))
  ·rintro x hs ⟨b,y1,y2,rfl,lP⟩;exact⟨_,bI.sub lP,b,y1,y2,rfl,rfl⟩
 ·rintro x hs ⟨b,y1,y2,rfl,rfl⟩;exact⟨b,y1,y2,_,_,_,_,rfl,rfl,h b y1 y2⟩
open Go.RX Go.Proofs
set_option maxRecDepth 100000
def So(al:PT)(x0:Int)(A0:Nat→Int)(q0:Bool)(v0:V1)(b0 b1 b2:Nat)(p0:HP):Prop:=
 ∀b3 b4:Nat,Cl 21 [pp b0,.int .u64 0,.int .i64 1] [cO b0 v0 q0,bh v0 x0 A0] fun x hs _=> ∃(v1:V1) (x1 x2:Int) (A1:Nat→Int) (q1:Bool),x= .int .u64 x1∧hs=[cO b0 v1 q1,bh v1 x2 A1]∧
 Cl 21 [pp b0,.int .u64 0,.int .i64 1] [cO b0 v1 q1,bh v1 x2 A1] fun x hs _=> ∃(v2:V1) (x3 x4:Int) (A2:Nat→Int) (q2:Bool),x= .int .u64 x3∧hs=[cO b0 v2 q2,bh v2 x4 A2]∧
 Cl 21 [pp b0,.int .u64 0,.int .i64 4] [cO b0 v2 q2,bh v2 x4 A2] fun x hs _=> ∃(v3:V1) (x5 x6:Int) (A3:Nat→Int) (q3:Bool),x= .int .u64 x5∧hs=[cO b0 v3 q3,bh v3 x6 A3]∧
 ∃(cH:Ext→Prop) (dp:Ext→Nat),(∃(v5 v6:V1) (x7 x8 x9:Int) (A4 A5 A6 A7 A8 A9 dX dA df fN gk gn fJ ff eQ fe fg fO iH jW jX:Nat→Int) (q4:Bool),∃p1:HP,x7=x5∧v5=v3∧q4=q3∧v5=v3∧x8=x6∧(∀j,j<(ag x8)→A4 j=A3 j)∧v6=(⟨.slice none 0 0,rfl⟩:V1)∧p1=p0∧v6=(⟨.slice none 0 0,rfl⟩:V1)∧x9=0∧(∀j,j<(ag (x9*32))→A5 j=(fun _=>0) j)∧(∀j,j<(ag (x9*32))→A6 j=(fun _=>0) j)∧(∀j,j<(ag (x9*32))→A7 j=(fun _=>0) j)∧(∀j,j<(ag (x9*32))→A8 j=(fun _=>0) j)∧(∀j,j<(ag x9)→A9 j=(fun _=>0) j)∧(∀j,j<(ag x9)→dX j=(fun _=>0) j)∧(∀j,j<(ag x9)→dA j=(fun _=>0) j)∧(∀j,j<(ag x9)→df j=(fun _=>0) j)∧(∀j,j<(ag (x9*32))→fN j=(fun _=>0) j)∧(∀j,j<(ag x9)→gk j=(fun _=>0) j)∧(∀j,j<(ag (x9*32))→gn j=(fun _=>0) j)∧(∀j,j<(ag x9)→fJ j=(fun _=>0) j)∧(∀j,j<(ag x9)→ff j=(fun _=>0) j)∧(∀j,j<(ag x9)→eQ j=(fun _=>0) j)∧(∀j,j<(ag (x9*32))→fe j=(fun _=>0) j)∧(∀j,j<(ag (x9*32))→fg j=(fun _=>0) j)∧(∀j,j<(ag x9)→fO j=(fun _=>0) j)∧(∀j,j<(ag x9)→iH j=(fun _=>0) j)∧(∀j,j<(ag x9)→jW j=(fun _=>0) j)∧(∀j,j<(ag x9)→jX j=(fun _=>0) j)∧cH ⟨[],[v5,v6],[x7,x8,x9],[A4,A5,A6,A7,A8,A9,dX,dA,df,fN,gk,gn,fJ,ff,eQ,fe,fg,fO,iH,jW,jX],[q4],[p1],[]⟩)∧
 ∀(v5 v6:V1) (x7 x8 x9:Int) (A4 A5 A6 A7 A8 A9 dX dA df fN gk gn fJ ff eQ fe fg fO iH jW jX:Nat→Int) (q4:Bool),∀p1:HP,cH ⟨[],[v5,v6],[x7,x8,x9],[A4,A5,A6,A7,A8,A9,dX,dA,df,fN,gk,gn,fJ,ff,eQ,fe,fg,fO,iH,jW,jX],[q4],[p1],[]⟩→
 bt ((0<x7)∧(¬(q4=true))) (
 ∀b5:Nat,Cl 105 [pp b0,pp b5] [cO b0 v5 q4,bh v5 x8 A4,adG b5,p1] fun x hs _=> ∃(v7:V1) (bE bO bT bL dR bW dF cr dB cI dz gQ fc:Int) (k_ n_ nj o_ q_ qP ri tc uQ:Nat→Int) (q5:Bool),∃p2:HP,x= .tuple #[]∧hs=[cO b0 v7 q5,bh v7 fc k_,ak b5 true (aul (aj .u8 32 n_) (aul (aj .u8 32 nj) (aul (aj .u8 32 o_) (aul (aj .u8 32 q_) (.bool (!(bE==0))::(.bool (!(bO==0))::(.bool (!(bT==0))::(.bool (!(bL==0))::(aul (aj .u8 32 qP) (.int .u32 dR::(aul (aj .u8 32 ri) (.int .u32 bW::(.int .u32 dF::((cc cr)::(aul (aj .u8 32 tc) (aul (aj .u8 32 uQ) ([.bool (!(dB==0)),.int .u32 cI,.bool (!(dz==0)),.bool (!(gQ==0))]))))))))))))))))),p2]∧
 ∀_:Nat,ax (0≤x9) (
 lp ((x9+1)*312) (
 ∀v8:V1,∃(Kr Wv:V1) (Px OW tR:Int) (zM Dx Jn Jo R4 A9' aaL Jx Jy Jz aaM aaN JA AF JB JC qy nI uA uB AO:Nat→Int) (q4':Bool),∃p1':HP,Px=(ae .u64 (x7 - 1))∧Kr=v7∧q4'=q5∧Kr=v7∧OW=fc∧(∀j,j<(ag OW)→zM j=k_ j)∧Wv=v8∧p1'=p2∧Wv=v8∧tR=(x9+1)∧(∀j,j<(ag (tR*32))→Dx j=(bX A5 (ag (x9*32)) 32 n_) j)∧(∀j,j<(ag (tR*32))→Jn j=(bX A6 (ag (x9*32)) 32 nj) j)∧(∀j,j<(ag (tR*32))→Jo j=(bX A7 (ag (x9*32)) 32 o_) j)∧(∀j,j<(ag (tR*32))→R4 j=(bX A8 (ag (x9*32)) 32 q_) j)∧(∀j,j<(ag tR)→A9' j=(aw A9 (ag x9) bE) j)∧(∀j,j<(ag tR)→aaL j=(aw dX (ag x9) bO) j)∧(∀j,j<(ag tR)→Jx j=(aw dA (ag x9) bT) j)∧(∀j,j<(ag tR)→Jy j=(aw df (ag x9) bL) j)∧(∀j,j<(ag (tR*32))→Jz j=(bX fN (ag (x9*32)) 32 qP) j)∧(∀j,j<(ag tR)→aaM j=(aw gk (ag x9) dR) j)∧(∀j,j<(ag (tR*32))→aaN j=(bX gn (ag (x9*32)) 32 ri) j)∧(∀j,j<(ag tR)→JA j=(aw fJ (ag x9) bW) j)∧(∀j,j<(ag tR)→AF j=(aw ff (ag x9) dF) j)∧(∀j,j<(ag tR)→JB j=(aw eQ (ag x9) cr) j)∧(∀j,j<(ag (tR*32))→JC j=(bX fe (ag (x9*32)) 32 tc) j)∧(∀j,j<(ag (tR*32))→qy j=(bX fg (ag (x9*32)) 32 uQ) j)∧(∀j,j<(ag tR)→nI j=(aw fO (ag x9) dB) j)∧(∀j,j<(ag tR)→uA j=(aw iH (ag x9) cI) j)∧(∀j,j<(ag tR)→uB j=(aw jW (ag x9) dz) j)∧(∀j,j<(ag tR)→AO j=(aw jX (ag x9) gQ) j)∧cH ⟨[],[Kr,Wv],[Px,OW,tR],[zM,Dx,Jn,Jo,R4,A9',aaL,Jx,Jy,Jz,aaM,aaN,JA,AF,JB,JC,qy,nI,uA,uB,AO],[q4'],[p1'],[]⟩∧dp ⟨[],[Kr,Wv],[Px,OW,tR],[zM,Dx,Jn,Jo,R4,A9',aaL,Jx,Jy,Jz,aaM,aaN,JA,AF,JB,JC,qy,nI,uA,uB,AO],[q4'],[p1'],[]⟩<dp ⟨[],[v5,v6],[x7,x8,x9],[A4,A5,A6,A7,A8,A9,dX,dA,df,fN,gk,gn,fJ,ff,eQ,fe,fg,fO,iH,jW,jX],[q4],[p1],[]⟩))) (
 al (.tuple #[]) [cO b0 v5 q4,bh v5 x8 A4,ak b1 true ([.int .u8 (ae .u8 x1),.int .u8 (ae .u8 x3),v6.v]),oX b2 b0,p1,oX b3 b1,ak b4 true ([pp b1,.pointer (some ⟨b1,1,none⟩)]),aB true 77 268 v6.v (ag x9) (aM (ag x9) [ay .u8 32 A5,ay .u8 32 A6,ay .u8 32 A7,ay .u8 32 A8,cY 1 A9,cY 1 dX,cY 1 dA,cY 1 df,ay .u8 32 fN,ay .u32 1 gk,ay .u8 32 gn,ay .u32 1 fJ,ay .u32 1 ff,eA 1 (fun j=>cc (eQ j)),ay .u8 32 fe,ay .u8 32 fg,cY 1 fO,ay .u32 1 iH,cY 1 jW,cY 1 jX])])
theorem aaP(al:PT)(x0:Int)(A0:Nat→Int)(q0:Bool)(v0:V1)(b0 b1 b2:Nat)(p0:HP)(h:So al x0 A0 q0 v0 b0 b1 b2 p0):aq auN 102 [pp b1,pp b2] [cO b0 v0 q0,bh v0 x0 A0,ak b1 true ([.int .u8 0,.int .u8 0,.slice none 0 0]),oX b2 b0,p0] al:=
 s8 (C:=adI) Ve.QC Ve.hpI Ve.Nc ⟨[x0],[A0],[q0],[b0,b1,b2],[v0],[],[p0],[]⟩ 8 Tryz.func102 (by kernel_rfl) h
def Sp(al:PT)(x0:Int)(A0:Nat→Int)(q0:Bool)(v0:V1)(b0 b1 b2:Nat):Prop:=
 Cl 45 [pp b0,.int .i64 16] [cO b0 v0 q0,bh v0 x0 A0] fun x hs _=> ∃(v1 v2:V1) (x1 x2:Int) (A1 A2:Nat→Int) (q1:Bool),x=v2.v∧hs=[cO b0 v1 q1,bh v1 x1 A1,bh v2 x2 A2]∧
 ax (0≤x2) (
 ax (0≤x2) (
 ∀_:Nat,Cl 21 [pp b0,.int .u64 0,.int .i64 1] [cO b0 v1 q1,bh v1 x1 A1] fun x hs _=> ∃(v3:V1) (x3 x4:Int) (A3:Nat→Int) (q2:Bool),x= .int .u64 x3∧hs=[cO b0 v3 q2,bh v3 x4 A3]∧
 ∀_:Nat,Cl 21 [pp b0,.int .u64 0,.int .i64 1] [cO b0 v3 q2,bh v3 x4 A3] fun x hs _=> ∃(v4:V1) (x5 x6:Int) (A4:Nat→Int) (q3:Bool),x= .int .u64 x5∧hs=[cO b0 v4 q3,bh v4 x6 A4]∧
 ∀_:Nat,Cl 21 [pp b0,.int .u64 0,.int .i64 8] [cO b0 v4 (q3||(decide (1<x5))),bh v4 x6 A4] fun x hs _=> ∃(v5:V1) (x7 x8:Int) (A5:Nat→Int) (q4:Bool),x= .int .u64 x7∧hs=[cO b0 v5 q4,bh v5 x8 A5]∧
 al (.tuple #[]) [cO b0 v5 q4,bh v5 x8 A5,ak b1 true (aul (aj .u8 16 (bX (fun _=>0) 0 (ag (ar .iO .i64 x2 16)) A2)) ([.int .u8 (ae .u8 x3),.bool (x5==1),.int .u64 x7])),oX b2 b0]))
theorem aaQ(al:PT)(x0:Int)(A0:Nat→Int)(q0:Bool)(v0:V1)(b0 b1 b2:Nat)(h:Sp al x0 A0 q0 v0 b0 b1 b2):aq auN 55 [pp b1,pp b2] [cO b0 v0 q0,bh v0 x0 A0,ak b1 true (aul (aj .u8 16 (fun _=>0)) ([.int .u8 0,.bool false,.int .u64 0])),oX b2 b0] al:=
 s8 (C:=adI) Ve.QC Ve.hpR Ve.ahS ⟨[x0],[A0],[q0],[b0,b1,b2],[v0],[],[],[]⟩ 4 Tryz.func55 (by kernel_rfl) h
open Go Go.RX Go.Proofs Go.Vs
theorem N7{H1 H2:HP}{acc:List cf}{C:Nat→Int}{x:cf}{c:Int}(h:vT H1 acc C)(hg:gl H2 H1)(hx:gZ H2 (pF false (cc c) x.s.aN)):vT H2 (acc++[x]) (aw C acc.length c):=by
 intro i hi;rw [aum,aun]at hi;by_cases he:i=acc.length
 ·subst he;rw [show aw C acc.length c acc.length=c from if_pos rfl];simpa using hx
 ·rw [show aw C acc.length c i=C i from if_neg he,List.getElem_append_left (by omega)];exact hg.trans (h i (by omega))
theorem N9{n:Nat}(h:n<256^1):ae .u8 (n:Int)=(n:Int):=V9 h
theorem wg{α:Type}(f:α→List Nat)(w:Nat)(s:List α)(x:α)(hs: ∀y∈s,(f y).length=w)(hx:(f x).length=w): ∀j,j<ag (((s++[x]).length:Int)*(w:Int))→cq f (s++[x]) j=bX (cq f s) (ag ((s.length:Int)*(w:Int))) w (aI (f x)) j:=AV f w s x hs hx fun _ _=>rfl
theorem Ww{a b c e d a' b':HP}{k:Nat}{r r':List Value}{L:List HP}(h1:a=a')(h2:b=b')(h3:r=r')(h4:L.getLast? =some d): ∃mid,a::b::ak k true r::c::e::L=[a',b',ak k true r',c,e]++mid++[d]:=by
 subst h1 h2 h3;obtain⟨hn,hl⟩:=au9.1 h4;exact⟨hn,by rw [hl];rfl⟩
set_option maxRecDepth 100000 in
set_option maxHeartbeats 8000000 in
theorem aes(b b1 b2:Nat)(v:V1)(q:Bool)(l:List Nat)(hl:fL l)(H:HP)(hH:H.wr=true):aq auN 102 [wP b1,wP b2] [dy b false v.v q,aR false v.v l,ak b1 true [.int .u8 0,.int .u8 0,.slice none 0 0],ak b2 true [wP b],H]
  fun r hs=>r= .tuple #[]∧∃(v' u:V1) (q':Bool) (l':List Nat) (C:Nat→Int) (H':HP),hs=[eX true u.v (bM.bD (cg q l)).1.l C,dy b false v'.v q',aR false v'.v l',ak b1 true (rZ (bM.bD (cg q l)).1 u.v),ak b2 true [wP b],H']∧cg q' l'=(bM.bD (cg q l)).2∧fL l'∧H'.wr=true∧gl H' H∧vT H' (bM.bD (cg q l)).1.l C:=by
 refine aq.post (aaP (fun r hs=>r= .tuple #[]∧∃(v' u:V1) (q':Bool) (l':List Nat) (C:Nat→Int) (H':HP),(∃mid,hs=[dy b false v'.v q',aR false v'.v l',ak b1 true (rZ (bM.bD (cg q l)).1 u.v),ak b2 true [wP b],H']++mid++[eX true u.v (bM.bD (cg q l)).1.l C])∧cg q' l'=(bM.bD (cg q l)).2∧fL l'∧H'.wr=true∧gl H' H∧vT H' (bM.bD (cg q l)).1.l C) (l.length:Int) (aI l) q v b b1 b2 H ?_) ?_;rotate_left
 ·rintro r hs ⟨rfl,v',u,q',l',C,H',⟨mid,rfl⟩,h1⟩;exact⟨_,bI.trans (bI.perm List.perm_append_comm) (bI.sub (List.Sublist.append (List.Sublist.refl _) (List.sublist_append_left _ _))),rfl,v',u,q',l',C,H',rfl,h1⟩
 unfold So;intro _ _;refine bp 1 (.inl ⟨rfl,rfl⟩) rfl hl cj.rfl rfl fun v0 q0 l0 yP ho0 X7=>?_
 refine bp 1 (.inl ⟨rfl,rfl⟩) ho0 yP cj.rfl rfl fun v1 q1 l1 IK ho1 zl=>?_
 refine ky ho1 IK cj.rfl rfl fun v2 q2 l2 N2 O2 MC MW DO eN2 eO2=>?_
 refine⟨fun x=> ∃(w w2:V1) (n:Nat) (q:Bool) (l:List Nat) (acc:List cf) (C:Nat→Int) (H1:HP),x=⟨[],[w,w2],[(n:Int),(l.length:Int),(acc.length:Int)],[aI l,cq (fun(x:cf)=>x.s.root) acc,cq (fun(x:cf)=>x.s.bind) acc,cq (fun(x:cf)=>x.s.own) acc,cq (fun(x:cf)=>x.s.ej) acc,er (fun(x:cf)=>x.s.jO) acc,er (fun(x:cf)=>x.s.jP) acc,er (fun(x:cf)=>x.s.jQ) acc,er (fun(x:cf)=>x.s.eD) acc,cq (fun(x:cf)=>x.s.send.key) acc,bN (fun(x:cf)=>x.s.send.n) acc,cq (fun(x:cf)=>x.s.recv.key) acc,bN (fun(x:cf)=>x.s.recv.n) acc,bN (fun(x:cf)=>x.s.prev) acc,C,cq (fun(x:cf)=>x.ident) acc,cq (fun(x:cf)=>x.ux) acc,er (fun(x:cf)=>x.ek) acc,bN (fun(x:cf)=>x.eW) acc,er (fun(x:cf)=>x.own) acc,er (fun(x:cf)=>x.current) acc],[q],[H1],[]⟩∧fL l∧acc.length+n=N2∧(∀y∈acc,qO y)∧ml bS n (cg q l) acc=ml bS N2 O2 []∧H1.wr=true∧gl H1 H∧vT H1 acc C,fun x=>(x.i.getD 0 0).toNat,?_,?_⟩
 ·exact⟨v2,⟨.slice none 0 0,rfl⟩,_,_,0,_,cq (fun(x:cf)=>x.s.root) [],cq (fun(x:cf)=>x.s.bind) [],cq (fun(x:cf)=>x.s.own) [],cq (fun(x:cf)=>x.s.ej) [],er (fun(x:cf)=>x.s.jO) [],er (fun(x:cf)=>x.s.jP) [],er (fun(x:cf)=>x.s.jQ) [],er (fun(x:cf)=>x.s.eD) [],cq (fun(x:cf)=>x.s.send.key) [],bN (fun(x:cf)=>x.s.send.n) [],cq (fun(x:cf)=>x.s.recv.key) [],bN (fun(x:cf)=>x.s.recv.n) [],bN (fun(x:cf)=>x.s.prev) [],fun _=>0,cq (fun(x:cf)=>x.ident) [],cq (fun(x:cf)=>x.ux) [],er (fun(x:cf)=>x.ek) [],bN (fun(x:cf)=>x.eW) [],er (fun(x:cf)=>x.own) [],er (fun(x:cf)=>x.current) [],q2,H,rfl,rfl,rfl,rfl,rfl,fun _ _=>rfl,rfl,rfl,rfl,rfl,fun _ h=>absurd h (by simp),fun _ h=>absurd h (by simp),fun _ h=>absurd h (by simp),fun _ h=>absurd h (by simp),fun _ h=>absurd h (by simp),fun _ h=>absurd h (by simp),fun _ h=>absurd h (by simp),fun _ h=>absurd h (by simp),fun _ h=>absurd h (by simp),fun _ h=>absurd h (by simp),fun _ h=>absurd h (by simp),fun _ h=>absurd h (by simp),fun _ h=>absurd h (by simp),fun _ h=>absurd h (by simp),fun _ h=>absurd h (by simp),fun _ h=>absurd h (by simp),fun _ h=>absurd h (by simp),fun _ h=>absurd h (by simp),fun _ h=>absurd h (by simp),fun _ h=>absurd h (by simp),v2,_,N2,q2,l2,[],fun _=>0,H,rfl,MC,by simp,by simp,by rw [MW],hH,gl.refl,fun _ h=>absurd h (by simp)⟩
 rintro wa ua _ _ _ _ _ _ _ _ _ _ _ _ _ _ _ _ _ Ca _ _ _ _ _ _ qa Ha ⟨wa,ua,na,qa,la,fC,Ca,Ha,Ia,hla,hna,qQ,Ex,hwa,hga,hea⟩;simp only [Ext.mk.injEq,List.cons.injEq,and_true,true_and]at Ia;obtain⟨⟨rfl,rfl⟩,⟨rfl,rfl,rfl⟩,⟨rfl,rfl,rfl,rfl,rfl,rfl,rfl,rfl,rfl,rfl,rfl,rfl,rfl,rfl,rfl,rfl,rfl,rfl,rfl,rfl,rfl⟩,⟨rfl,rfl⟩⟩:=Ia;refine⟨fun cF=>?_,fun mn=>?_⟩
 ·obtain⟨m,rfl,rfl,qH⟩:=nK bS cF;intro _;refine NS hwa rfl hla cj.rfl rfl fun ve c qe le He hle UN iz hwe Sq Wx=>?_
  intro _;have hx:qO (bS.bD (cg false la)).1:=iz;refine⟨by omega,fun _=>⟨by omega,fun _=>fun w3=>?_⟩⟩;refine⟨ve,w3,(m:Int),_,((fC++[(bS.bD (cg false la)).1]).length:Int),_,cq (fun(x:cf)=>x.s.root) (fC++[(bS.bD (cg false la)).1]),cq (fun(x:cf)=>x.s.bind) (fC++[(bS.bD (cg false la)).1]),cq (fun(x:cf)=>x.s.own) (fC++[(bS.bD (cg false la)).1]),cq (fun(x:cf)=>x.s.ej) (fC++[(bS.bD (cg false la)).1]),er (fun(x:cf)=>x.s.jO) (fC++[(bS.bD (cg false la)).1]),er (fun(x:cf)=>x.s.jP) (fC++[(bS.bD (cg false la)).1]),er (fun(x:cf)=>x.s.jQ) (fC++[(bS.bD (cg false la)).1]),er (fun(x:cf)=>x.s.eD) (fC++[(bS.bD (cg false la)).1]),cq (fun(x:cf)=>x.s.send.key) (fC++[(bS.bD (cg false la)).1]),bN (fun(x:cf)=>x.s.send.n) (fC++[(bS.bD (cg false la)).1]),cq (fun(x:cf)=>x.s.recv.key) (fC++[(bS.bD (cg false la)).1]),bN (fun(x:cf)=>x.s.recv.n) (fC++[(bS.bD (cg false la)).1]),bN (fun(x:cf)=>x.s.prev) (fC++[(bS.bD (cg false la)).1]),aw Ca fC.length c,cq (fun(x:cf)=>x.ident) (fC++[(bS.bD (cg false la)).1]),cq (fun(x:cf)=>x.ux) (fC++[(bS.bD (cg false la)).1]),er (fun(x:cf)=>x.ek) (fC++[(bS.bD (cg false la)).1]),bN (fun(x:cf)=>x.eW) (fC++[(bS.bD (cg false la)).1]),er (fun(x:cf)=>x.own) (fC++[(bS.bD (cg false la)).1]),er (fun(x:cf)=>x.current) (fC++[(bS.bD (cg false la)).1]),qe,He,AW (by omega),rfl,rfl,rfl,rfl,fun _ _=>rfl,rfl,rfl,rfl,by simp,?_,?_,?_,?_,?_,?_,?_,?_,?_,?_,?_,?_,?_,fun _ _=>rfl,?_,?_,?_,?_,?_,?_,⟨ve,w3,m,qe,le,_,_,He,rfl,hle,by simp;omega,?_,?_,hwe,Sq.then hga,N7 hea Sq Wx⟩,?_⟩
  ·exact wg (fun(x:cf)=>x.s.root) 32 fC _ (fun y hy=>(qQ y hy).root) iz.root
  ·exact wg (fun(x:cf)=>x.s.bind) 32 fC _ (fun y hy=>(qQ y hy).bind) iz.bind
  ·exact wg (fun(x:cf)=>x.s.own) 32 fC _ (fun y hy=>(qQ y hy).own) iz.own
  ·exact wg (fun(x:cf)=>x.s.ej) 32 fC _ (fun y hy=>(qQ y hy).ej) iz.ej
  ·exact r8 (fun(x:cf)=>x.s.jO) fC _ rfl
  ·exact r8 (fun(x:cf)=>x.s.jP) fC _ rfl
  ·exact r8 (fun(x:cf)=>x.s.jQ) fC _ rfl
  ·exact r8 (fun(x:cf)=>x.s.eD) fC _ rfl
  ·exact wg (fun(x:cf)=>x.s.send.key) 32 fC _ (fun y hy=>(qQ y hy).sk) iz.sk
  ·exact mG (fun(x:cf)=>x.s.send.n) fC _ rfl
  ·exact wg (fun(x:cf)=>x.s.recv.key) 32 fC _ (fun y hy=>(qQ y hy).rk) iz.rk
  ·exact mG (fun(x:cf)=>x.s.recv.n) fC _ rfl
  ·exact mG (fun(x:cf)=>x.s.prev) fC _ rfl
  ·exact wg (fun(x:cf)=>x.ident) 32 fC _ (fun y hy=>(qQ y hy).ident) iz.ident
  ·exact wg (fun(x:cf)=>x.ux) 32 fC _ (fun y hy=>(qQ y hy).ux) iz.ux
  ·exact r8 (fun(x:cf)=>x.ek) fC _ rfl
  ·exact mG (fun(x:cf)=>x.eW) fC _ rfl
  ·exact r8 (fun(x:cf)=>x.own) fC _ rfl
  ·exact r8 (fun(x:cf)=>x.current) fC _ rfl
  ·intro y hy;rcases auE.1 hy with hy | hy
   ·exact qQ y hy
   ·rw [auz.1 hy];exact hx
  ·exact(congrArg (fun z=>Go.Vs.ml bS m z _) UN).trans (qH.symm.trans Ex)
  ·simp only [ah];omega
 ·rw [nJ bS mn]at Ex;have hsa:cg qa la=(ml bS N2 O2 []).2:=by rw [←Ex]
  have haa:fC=(ml bS N2 O2 []).1:=by rw [←Ex]
  subst haa eN2 eO2;refine⟨rfl,wa,ua,_,la,Ca,Ha,Ww rfl rfl ?_ rfl,hsa,hla,hwa,hga,hea⟩;rw [N9 X7,N9 zl];rfl
theorem Sr{a b d:HP}{k:Nat}{r r':List Value}(h:r=r'):[a,b,ak k true r,d]=[a,b,ak k true r',d]:=by rw [h]
theorem N_(b b1 b2:Nat)(v:V1)(q:Bool)(l:List Nat)(hl:fL l):aq auN 55 [wP b1,wP b2] [dy b false v.v q,aR false v.v l,ak b1 true (aul (aj .u8 16 (fun _=>0)) [.int .u8 0,.bool false,.int .u64 0]),ak b2 true [wP b]]
  fun r hs=>r= .tuple #[]∧∃(v':V1) (q':Bool) (l':List Nat),hs=[dy b false v'.v q',aR false v'.v l',ak b1 true (aul (aj .u8 16 (aI (dW.bD (cg q l)).1.id)) [.int .u8 ((dW.bD (cg q l)).1.aP:Int),.bool (!(bi (dW.bD (cg q l)).1.out==0)),.int .u64 ((dW.bD (cg q l)).1.since:Int)]),ak b2 true [wP b]]∧cg q' l'=(dW.bD (cg q l)).2∧fL l':=by
 refine aaQ _ (l.length:Int) (aI l) q v b b1 b2 ?_;unfold Sp;refine cS 16 rfl (by decide) rfl hl cj.rfl rfl fun v0 w0 n0 A0 q0 l0 yP ho0 Da vV=>?_
 refine⟨Da,fun _=>⟨Da,fun _=>?_⟩⟩;intro _;refine bp 1 (.inl ⟨rfl,rfl⟩) ho0 yP cj.rfl rfl fun v1 q1 l1 IK ho1 zl=>?_
 intro _;refine bp 1 (.inl ⟨rfl,rfl⟩) ho1 IK cj.rfl rfl fun v2 q2 l2 MC MW DO=>?_
 have Oa:=mT MW;intro _;refine bp 8 (.inr (.inr ⟨rfl,rfl⟩)) Oa MC cj.rfl rfl fun v3 q3 l3 YJ ho3 Zf=>?_
 refine⟨rfl,v3,_,l3,Sr ?_,ho3,YJ⟩;rw [N9 zl,jy];exact congrArg (fun x=>aul x _) (fR vV)
end Go.RX.Vb
