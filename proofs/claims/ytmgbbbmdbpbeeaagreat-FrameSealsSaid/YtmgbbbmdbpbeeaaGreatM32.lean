/- Counters. -/
import Derived.Test.YtmgbbbmdbpbeeaaGreatM31
import Derived.Test.YtmgbbbmdbpbeeaaGreatFkF
open Go.IntKind renaming wrap → ae
open Go.Proofs.Tryz renaming prog → ae0
open Int renaming natCast_add → afy, toNat → ag, toNat_natCast → afe
open List renaming getD_cons_succ → aeW, getD_cons_zero → ah, getElem?_eq_some_iff → aeV, mem_cons → afd, not_mem_nil → ae9
open List.cons renaming injEq → ae8
open Nat renaming eq_of_testBit_eq → afx, lt_of_lt_of_le → ae_, mod_eq_of_lt → afp, mod_lt → afI, testBit → afH
namespace Go.RX.Fj
open Go Go.RX Go.Proofs Go.Ae Go.RX.Sh Go.RX.Fe Go.RX.Fg Go.RX.Fi
theorem oD{a:Nat}(h:a<2^64):ae .u64 (a:Int)=(a:Int):=by rw [wrap_u64,afp h]
theorem QS{a b c d:Nat}(ha:a<256)(hb:b<256)(hc:c<256)(hd:d<256):
  (ak .rem .u64 (ae .u64 ((ae .u64 ((ae .u64 (256*(ae .u64 ((ae .u64 (256*(ae .u64 ((ae .u64 (256*(ae .u64 (ae .u64 (a:Int)))))+(ae .u64 (b:Int))))))+(ae .u64 (c:Int))))))+(ae .u64 (d:Int))))+1)) 4294967296)
   =(((a*16777216+b*65536+c*256+d+1)%4294967296:Nat):Int):=by
 rw [oD (a:=a) (by omega),oD (a:=b) (by omega),oD (a:=c) (by omega),oD (a:=d) (by omega),oD (a:=a) (by omega)];rw [show(256:Int)*(a:Int)=((256*a:Nat):Int)from rfl,oD (by omega),←afy,oD (by omega)];rw [show(256:Int)*((256*a+b:Nat):Int)=((256*(256*a+b):Nat):Int)from rfl,oD (by omega),←afy,oD (by omega)];rw [show(256:Int)*((256*(256*a+b)+c:Nat):Int)=((256*(256*(256*a+b)+c):Nat):Int)from rfl,oD (by omega),←afy,oD (by omega)];rw [show((256*(256*(256*a+b)+c)+d:Nat):Int)+1=((256*(256*(256*a+b)+c)+d+1:Nat):Int)from rfl,oD (by omega)];rw [show ak .rem .u64 ((256*(256*(256*a+b)+c)+d+1:Nat):Int) 4294967296=(((256*(256*(256*a+b)+c)+d+1)%4294967296:Nat):Int)from rfl];congr 2;omega
theorem EC{n:Nat}(h:n<4294967296)(d:Nat):ae .u8 (ak .rem .u64 (ae .u64 (ak .quo .u64 (n:Int) (d:Int))) 256)=((n/d%256:Nat):Int):=by
 have h1:ak .quo .u64 (n:Int) (d:Int)=((n/d:Nat):Int):=rfl;have h2:n/d≤n:=Nat.div_le_self n d;rw [h1];generalize n/d=q at h2;have h3:ak .rem .u64 (q:Int) 256=((q%256:Nat):Int):=rfl;rw [oD (by omega),h3,wrap_u8];congr 1;omega
theorem Zq(a0 a1 a2 a3:Int):aq (aq (aq (aq (fun _=>0) 0 a0) 1 a1) 2 a2) 3 a3 0=a0∧aq (aq (aq (aq (fun _=>0) 0 a0) 1 a1) 2 a2) 3 a3 1=a1∧aq (aq (aq (aq (fun _=>0) 0 a0) 1 a1) 2 a2) 3 a3 2=a2∧aq (aq (aq (aq (fun _=>0) 0 a0) 1 a1) 2 a2) 3 a3 3=a3:=⟨rfl,rfl,rfl,rfl⟩
theorem QT{n:Nat}(h:n<4294967296):ae .u8 (ae .u64 (ak .quo .u64 (n:Int) 16777216))=((n/16777216%256:Nat):Int):=by
 have h1:ak .quo .u64 (n:Int) 16777216=((n/16777216:Nat):Int):=rfl;have h2:n/16777216≤n:=Nat.div_le_self n _;rw [h1];generalize n/16777216=q at h2;rw [oD (by omega),wrap_u8]
theorem Wp{n:Nat}(h:n<4294967296):ae .u8 (ak .rem .u64 (ae .u64 (ak .quo .u64 (n:Int) 65536)) 256)=((n/65536%256:Nat):Int):=EC h 65536
theorem Wq{n:Nat}(h:n<4294967296):ae .u8 (ak .rem .u64 (ae .u64 (ak .quo .u64 (n:Int) 256)) 256)=((n/256%256:Nat):Int):=EC h 256
theorem Ws(n:Nat):ae .u8 (ak .rem .u64 (n:Int) 256)=((n%256:Nat):Int):=by
 have h1:ak .rem .u64 (n:Int) 256=((n%256:Nat):Int):=rfl;rw [h1,wrap_u8];congr 1;omega
theorem eu(v0:V1)(B:Nat→Nat)(hB: ∀j,B j<256):aw ae0 126 [v0.v] [aj false v0 16 B] fun x hs=> ∃o:V1,x=o.v∧hs=[aj true o 16 (nx B)]:=by
 refine aw.post (p:=fun x hs=> ∃o:V1,x=o.v∧hs[0]? =some (aj true o 16 (nx B))) ?_ ?_;rotate_left
 ·rintro x hs ⟨o,rfl,h⟩;exact⟨_,bX.lY 0 h,o,rfl,rfl⟩
 refine O0 _ (fun j=>(B j:Nat)) v0 ?_;unfold rW;rw [QS (hB 12) (hB 13) (hB 14) (hB 15)];have Qg:(B 12*16777216+B 13*65536+B 14*256+B 15+1)%4294967296=(vX B+1)%4294967296:=rfl;rw [Qg];have bU:(vX B+1)%4294967296<4294967296:=afI _ (by decide);have dC:=R5 B;generalize (vX B+1)%4294967296=n at bU dC ⊢;intro v1 v2 b0 v3;refine⟨v3,rfl,?_⟩;have e2: ∀f:Nat→Int,(∀j,j<16→f j=(nx B j:Nat))→aE true 5 1 v3.v 16 (aQ 16 [aO .u8 1 f])=aj true v3 16 (nx B):=fun f hf=>by
  rw [aW hf];rfl
 refine congrArg some (e2 _ ?_);intro j hj;unfold aI;by_cases c:j<12
 ·rw [if_neg (by omega)];unfold nx;rw [if_pos c]
 ·rw [if_pos (by omega)];have hj4:j=12∨j=13∨j=14∨j=15:=by omega
  have hu:=Zq (ae .u8 (ae .u64 (ak .quo .u64 (n:Int) 16777216))) (ae .u8 (ak .rem .u64 (ae .u64 (ak .quo .u64 (n:Int) 65536)) 256)) (ae .u8 (ak .rem .u64 (ae .u64 (ak .quo .u64 (n:Int) 256)) 256)) (ae .u8 (ak .rem .u64 (n:Int) 256));rw [QT bU,Wp bU,Wq bU,Ws n]at hu ⊢;rcases hj4 with h | h | h | h<;>rw [h]
  ·rw [dC.1,Nat.sub_self];exact hu.1
  ·rw [dC.2.1,show 13 - 12=1 from rfl];exact hu.2.1
  ·rw [dC.2.2.1,show 14 - 12=2 from rfl];exact hu.2.2.1
  ·rw [dC.2.2.2,Nat.div_one,show 15 - 12=3 from rfl];exact hu.2.2.2
theorem Gw{B:List HP}{x:Value}(hx:x.oneCell'=true)(C:Nat→Nat)(hC: ∀j,C j<256)(hb:au B (aB x 16 C)):aw ae0 126 [x] B fun r hs=> ∃o:V1,r=o.v∧hs=B++[aj true o 16 (nx C)]:=by
 have h:aw ae0 126 [x] ([]++[aB x 16 C]) fun r hs=> ∃nw,(∃o:V1,r=o.v∧nw=[aj true o 16 (nx C)])∧hs=[]++nw:=by
  refine aw.post (eu ⟨x,hx⟩ C hC) ?_;rintro r hs ⟨o,hr,rfl⟩;exact⟨_,bX.refl _,_,⟨o,hr,rfl⟩,rfl⟩
 refine aw.post (aw.fp h (by simp) ?_ ?_) ?_
 ·rintro v nw ⟨o,_,rfl⟩ h hh;simp only [afd,ae9,or_false]at hh;subst hh;rfl
 ·intro h hh;simp only [afd,ae9,or_false]at hh;subst hh;exact hb
 ·rintro r hs ⟨nw,⟨o,hr,rfl⟩,rfl⟩;exact⟨_,bX.refl _,o,hr,rfl⟩
theorem yj{B:List HP}{x0 x1 x2:Value}(h0:x0.oneCell'=true)(h1:x1.oneCell'=true)(h2:x2.oneCell'=true)(n:Nat)(hn:0<n)(oN:n<100)(K C:Nat→Nat)(hK: ∀j,K j<256)(hC: ∀j,C j<256)
  (yZ:au B (aB x0 256 sb)) (wm:au B (aB x1 (16*(n+7)) (wf n K))) (y4:au B (aB x2 16 C)):aw ae0 124 [x0,x1,x2] B fun r hs=> ∃o:V1,r=o.v∧hs=B++[aj true o 16 (enc n K C)]:=by
 have h:aw ae0 124 [x0,x1,x2] ([]++[aB x0 256 sb,aB x1 (16*(n+7)) (wf n K),aB x2 16 C]) fun r hs=> ∃nw,(∃o:V1,r=o.v∧nw=[aj true o 16 (enc n K C)])∧hs=[]++nw:=by
  refine aw.post (od ⟨x0,h0⟩ ⟨x1,h1⟩ ⟨x2,h2⟩ n hn oN K C hK hC) ?_;rintro r hs ⟨o,hr,rfl⟩;exact⟨_,bX.refl _,_,⟨o,hr,rfl⟩,rfl⟩
 refine aw.post (aw.fp h (by simp) ?_ ?_) ?_
 ·rintro v nw ⟨o,_,rfl⟩ h hh;simp only [afd,ae9,or_false]at hh;subst hh;rfl
 ·intro h hh;simp only [afd,ae9,or_false]at hh;rcases hh with rfl | rfl | rfl
  ·exact yZ
  ·exact wm
  ·exact y4
 ·rintro r hs ⟨nw,⟨o,hr,rfl⟩,rfl⟩;exact⟨_,bX.refl _,o,hr,rfl⟩
open Go Go.RX Go.Proofs Go.Ae Go.RX.Sh Go.RX.Fe Go.RX.Fg Go.RX.Fi
theorem au.get{B:List HP}{md:Bool}{v:V1}{n:Nat}{T:Nat→Nat}(i:Nat)(h:B[i]? =some (aj md v n T)):au B (aB v.v n T):=by
 obtain⟨hl,he⟩:=aeV.1 h;have e:B=B.take i++[aj md v n T]++B.drop (i+1):=by
  rw [List.append_assoc,←he];simp
 rw [e];refine au.mid ?_;cases md
 ·exact au.view
 ·exact au.bytes
set_option maxHeartbeats 1000000 in
theorem rG(v0 v1 v2 v3:V1)(n:Nat)(hn:0<n)(oN:n<100)(K B T:Nat→Nat)(hK: ∀j,K j<256)(hB: ∀j,B j<256)(hT: ∀j,T j<256)(len:Nat)(hl:len≤140737488355328):
  aw ae0 102 [v0.v,v1.v,v2.v,v3.v] [d_ false v0,dy false v1 n K,aj false v2 16 B,aj false v3 len T] fun x hs=> ∃o:V1,x=o.v∧hs=[aj true o len (cS n K B T)]:=by
 refine aw.post (p:=fun x hs=> ∃(o:V1),x=o.v∧hs[5]? =some (aj true o len (cS n K B T))) ?_ ?_;rotate_left
 ·rintro x hs ⟨o,rfl,h⟩;exact⟨_,bX.lY 5 h,o,rfl,rfl⟩
 refine O1 _ ((16*(n+7):Nat):Int) (len:Int) (fun j=>(sb j:Nat)) (fun j=>(wf n K j:Nat)) (fun j=>(B j:Nat)) (fun j=>(T j:Nat)) v0 v1 v2 v3 ?_;unfold rX;have hN:=yi B hB;intro v4 v5;refine⟨fun e=> ∃i:Nat,i≤len∧e.i=[(i:Int),(i:Int),((if i=0 then 0 else 16:Nat):Int)]∧(∀j,j<16→(e.a.getD 0 fun _=>0) j=(CO B ((i+15)/16) j:Nat))∧(∀j,j<i→(e.a.getD 1 fun _=>0) j=(cS n K B T j:Nat))∧(0<i→∀j,j<16→(e.a.getD 2 fun _=>0) j=(enc n K (CO B ((i - 1)/16)) j:Nat)),
  fun e=>((len:Int) - e.i.getD 0 0).toNat,⟨_,_,_,0,0,0,_,_,_,rfl,rfl,rfl,rfl,rfl,fun _ _=>rfl,rfl,rfl,fun _ _=>rfl,rfl,rfl,fun _ _=>rfl,0,by omega,rfl,fun _ _=>rfl,fun j hj=>absurd hj (by omega),fun h=>absurd h (by omega)⟩,?_⟩
 rintro v8 v9 v10 x2 x3 x4 A4 A5 A6 ⟨i,hi,hx,FH,Iu,TL⟩;simp only [ae8,and_true]at hx;obtain⟨rfl,rfl,rfl⟩:=hx;simp only [ah,aeW]at FH Iu TL;have hr:ak .rem .i64 (i:Int) 16=((i%16:Nat):Int):=rfl;rw [hr];have ti:ag (i:Int)=i:=rfl;refine⟨by omega,fun _=>⟨fun bU=>⟨fun h0=>?_,fun h0=>?_⟩,fun iH=>?_⟩⟩
 ·have hm:i%16=0:=by omega
  have e8:aE true 5 1 v8.v 16 (aQ 16 [aO .u8 1 A4])=aj true v8 16 (CO B (i/16)):=by
   unfold aj;rw [aW fun j hj=>by rw [FH j hj,show(i+15)/16=i/16 by omega]]
  refine⟨_,yj (B:=[d_ false v0,dy false v1 n K,aE true 5 1 v8.v 16 (aQ 16 [aO .u8 1 A4])]) v0.one v1.one v8.one n hn oN K (CO B (i/16)) hK (hN _) (au.get 0 rfl) (au.get 1 rfl) (au.get 2 (by rw [e8];rfl)),?_⟩;rintro x hs ⟨v11,rfl,rfl⟩;refine⟨v11,fun j=>(enc n K (CO B (i/16)) j:Nat),rfl,rfl,?_⟩;refine⟨_,Gw (B:=[aE true 5 1 v8.v 16 (aQ 16 [aO .u8 1 A4])]) v8.one (CO B (i/16)) (hN _) (au.get 0 (by rw [e8];rfl)),?_⟩;rintro x hs ⟨oL,rfl,rfl⟩;refine⟨oL,fun j=>(nx (CO B (i/16)) j:Nat),rfl,rfl,?_⟩
  iterate 3 refine⟨by omega,fun _=>?_⟩
  intro b0;refine⟨by omega,fun _=>⟨by omega,fun _=>?_⟩⟩;intro qp;refine⟨by omega,fun _=>⟨by omega,fun _=>?_⟩⟩;refine⟨oL,qp,v11,_,_,_,_,_,_,rfl,rfl,rfl,rfl,rfl,fun _ _=>rfl,rfl,rfl,fun _ _=>rfl,rfl,rfl,fun _ _=>rfl,⟨i+1,by omega,?_,?_,?_,?_⟩,?_⟩
  ·rw [if_neg (by omega)];rfl
  ·intro j hj;simp only [ah];rw [show(i+1+15)/16=i/16+1 by omega];rfl
  ·intro j hj;simp only [ah,aeW];rw [ti,afe];unfold aq;split
   ·rename_i e;subst e;rw [bP (hT _) (rF n K _ hK (hN _) _)];rfl
   ·exact Iu j (by omega)
  ·intro _ j hj;simp only [ah,aeW];rw [show(i+1 - 1)/16=i/16 by omega]
  ·simp only [ah];omega
 ·have hm:i%16≠0:=by omega
  have hp:0<i:=by omega
  refine⟨by omega,fun _=>⟨by omega,fun _=>⟨by rw [if_neg (by omega)];omega,fun _=>?_⟩⟩⟩;intro b0;refine⟨by omega,fun _=>⟨by omega,fun _=>?_⟩⟩;intro qp;refine⟨by omega,fun _=>⟨by omega,fun _=>?_⟩⟩;refine⟨v8,qp,v10,_,_,_,_,_,_,rfl,rfl,rfl,rfl,rfl,fun _ _=>rfl,rfl,rfl,fun _ _=>rfl,rfl,rfl,fun _ _=>rfl,⟨i+1,by omega,?_,?_,?_,?_⟩,?_⟩
  ·rw [if_neg (by omega),if_neg (by omega)];rfl
  ·intro j hj;simp only [ah];rw [FH j hj,show(i+1+15)/16=(i+15)/16 by omega]
  ·intro j hj;simp only [ah,aeW];rw [ti,afe];unfold aq;split
   ·rename_i e;subst e;rw [TL hp _ (afI _ (by decide)),bP (hT _) (rF n K _ hK (hN _) _),show(j - 1)/16=j/16 by omega];rfl
   ·exact Iu j (by omega)
  ·intro _ j hj;simp only [ah,aeW];rw [TL hp j hj,show(i+1 - 1)/16=(i - 1)/16 by omega]
  ·simp only [ah];omega
 ·have:i=len:=by omega
  subst this;refine⟨v9,rfl,?_⟩;show some (aE true 5 1 v9.v i (aQ i [aO .u8 1 A5]))=_;unfold aj;rw [aW Iu]
theorem dO{B:List HP}{x0 x1 x2 x3:Value}(h0:x0.oneCell'=true)(h1:x1.oneCell'=true)(h2:x2.oneCell'=true)(h3:x3.oneCell'=true)(n:Nat)(hn:0<n)(oN:n<100)(K C T:Nat→Nat)(hK: ∀j,K j<256)(hC: ∀j,C j<256)(hT: ∀j,T j<256)(len:Nat)(hl:len≤140737488355328)
  (yZ:au B (aB x0 256 sb)) (wm:au B (aB x1 (16*(n+7)) (wf n K))) (y4:au B (aB x2 16 C)) (hb3:au B (aB x3 len T)):aw ae0 102 [x0,x1,x2,x3] B fun r hs=> ∃o:V1,r=o.v∧hs=B++[aj true o len (cS n K C T)]:=by
 have h:aw ae0 102 [x0,x1,x2,x3] ([]++[aB x0 256 sb,aB x1 (16*(n+7)) (wf n K),aB x2 16 C,aB x3 len T]) fun r hs=> ∃nw,(∃o:V1,r=o.v∧nw=[aj true o len (cS n K C T)])∧hs=[]++nw:=by
  refine aw.post (rG ⟨x0,h0⟩ ⟨x1,h1⟩ ⟨x2,h2⟩ ⟨x3,h3⟩ n hn oN K C T hK hC hT len hl) ?_;rintro r hs ⟨o,hr,rfl⟩;exact⟨_,bX.refl _,_,⟨o,hr,rfl⟩,rfl⟩
 refine aw.post (aw.fp h (by simp) ?_ ?_) ?_
 ·rintro v nw ⟨o,_,rfl⟩ h hh;simp only [afd,ae9,or_false]at hh;subst hh;rfl
 ·intro h hh;simp only [afd,ae9,or_false]at hh;rcases hh with rfl | rfl | rfl | rfl
  ·exact yZ
  ·exact wm
  ·exact y4
  ·exact hb3
 ·rintro r hs ⟨nw,⟨o,hr,rfl⟩,rfl⟩;exact⟨_,bX.refl _,o,hr,rfl⟩
end Go.RX.Fj

namespace Go.Gh
def xs:Nat→(Nat→Bool)→Bool
 | 0,_=>false
 | n+1,f=>xs n f ^^ f n
theorem dE{n:Nat}{f g:Nat→Bool}(h: ∀j,j<n→f j=g j):xs n f=xs n g:=by
 induction n with
 | zero=>rfl
 | succ n ih=>rw [xs,xs,ih fun j hj=>h j (by omega),h n (by omega)]
theorem yl(n:Nat)(f g:Nat→Bool):xs n (fun j=>f j ^^ g j)=(xs n f ^^ xs n g):=by
 induction n with
 | zero=>rfl
 | succ n ih=>
  rw [xs,xs,xs,ih];cases xs n f<;>cases xs n g<;>cases f n<;>cases g n<;>rfl
theorem BR(n:Nat)(b:Bool)(f:Nat→Bool):xs n (fun j=>b&&f j)=(b&&xs n f):=by
 induction n with
 | zero=>cases b<;>rfl
 | succ n ih=>rw [xs,xs,ih];cases b<;>simp
theorem ym(n:Nat):xs n (fun _=>false)=false:=by
 induction n with
 | zero=>rfl
 | succ n ih=>rw [xs,ih];rfl
theorem Iv(n m:Nat)(f:Nat→Nat→Bool):xs n (fun a=>xs m (f a))=xs m (fun b=>xs n fun a=>f a b):=by
 induction n with
 | zero=>exact(ym m).symm
 | succ n ih=>
  rw [xs,ih,←yl];exact dE fun b _=>rfl
theorem Ni(n k:Nat)(hk:k<n)(b:Bool):xs n (fun j=>b&&decide (j=k))=b:=by
 induction n with
 | zero=>omega
 | succ n ih=>
  rw [xs];by_cases h:k=n
  ·subst h;rw [dE (g:=fun _=>false) (fun j hj=>by have: ¬j=k:=(by omega);simp [this]),ym];simp
  ·have: ¬n=k:=fun h'=>h h'.symm
   rw [ih (by omega)];simp [this]
theorem sU(n k:Nat)(hk:k<n)(f:Nat→Bool):xs n (fun j=>f j&&decide (j=k))=f k:=by
 rw [←Ni n k hk (f k)];refine dE fun j _=>?_
 by_cases h:j=k
 ·subst h;rfl
 ·simp [h]
def xt(f:Nat→Bool):Nat→Bool:=fun i=>if i=0 then f 127 else f (i - 1) ^^ (f 127&&(decide (i=1)||decide (i=2)||decide (i=7)))
def vY:Nat→(Nat→Bool)→(Nat→Bool)
 | 0,f=>f
 | n+1,f=>xt (vY n f)
def add(f g:Nat→Bool):Nat→Bool:=fun i=>f i ^^ g i
theorem TM(f g:Nat→Bool):xt (add f g)=add (xt f) (xt g):=by
 funext i;unfold xt add;by_cases h:i=0
 ·simp [h]
 ·simp only [h,if_false];generalize (decide (i=1)||decide (i=2)||decide (i=7))=w;cases f (i - 1)<;>cases g (i - 1)<;>cases f 127<;>cases g 127<;>cases w<;>rfl
theorem wI(n:Nat)(f g:Nat→Bool):vY n (add f g)=add (vY n f) (vY n g):=by
 induction n with
 | zero=>rfl
 | succ n ih=>rw [vY,ih,TM];rfl
theorem Iw{f g:Nat→Bool}(h: ∀i,i<128→f i=g i): ∀i,i<128→xt f i=xt g i:=by
 intro i hi;unfold xt;rw [h 127 (by omega)];split
 ·rfl
 ·rw [h (i - 1) (by omega)]
theorem ED(n:Nat){f g:Nat→Bool}(h: ∀i,i<128→f i=g i): ∀i,i<128→vY n f i=vY n g i:=by
 induction n with
 | zero=>exact h
 | succ n ih=>exact Iw ih
theorem QU(a b:Nat)(f:Nat→Bool):vY a (vY b f)=vY (a+b) f:=by
 induction a with
 | zero=>rw [Nat.zero_add];rfl
 | succ a ih=>rw [vY,ih,show a+1+b=(a+b)+1 by omega];rfl
def e(k:Nat):Nat→Bool:=fun i=>decide (i=k)
def R(k:Nat):Nat→Bool:=vY k (e 0)
theorem Zr(k:Nat)(hk:k<127):xt (e k)=e (k+1):=by
 funext i;unfold xt e;by_cases h:i=0
 ·subst h;simp;omega
 ·simp only [h,if_false];have h1:decide (127=k)=false:=by simp;omega
  rw [h1];simp;omega
theorem UQ(k:Nat)(hk:k<128):R k=e k:=by
 induction k with
 | zero=>rfl
 | succ k ih=>
  show xt (R k)=_;rw [ih (by omega),Zr k (by omega)]
theorem AF(a b:Nat):vY a (R b)=R (a+b):=QU a b (e 0)
theorem Zs: ∀i:Fin 128,R 128 i.val=(R 0 i.val ^^ R 1 i.val ^^ R 2 i.val ^^ R 7 i.val):=by
 intro i;show xt (R 127) i.val=_;rw [UQ 127 (by decide),UQ 0 (by decide),UQ 1 (by decide),UQ 2 (by decide),UQ 7 (by decide)];unfold xt e;have hi:=i.isLt;by_cases h:i.val=0
 ·simp [h]
 ·simp only [h,if_false];have h1:decide (i.val - 1=127)=false:=by simp;omega
  rw [h1];by_cases h2:i.val=1
  ·simp [h2]
  ·by_cases h3:i.val=2
   ·simp [h3]
   ·simp [h2,h3]
theorem TN(k i:Nat)(hi:i<128):R (k+128) i=(R k i ^^ R (k+1) i ^^ R (k+2) i ^^ R (k+7) i):=by
 have h0: ∀i,i<128→R 128 i=add (add (add (R 0) (R 1)) (R 2)) (R 7) i:=fun i hi=>Zs ⟨i,hi⟩
 have:=ED k h0 i hi;rw [wI,wI,wI,AF,AF,AF,AF,AF]at this;exact this
theorem Nj(f:Nat→Bool)(i:Nat)(hi:i<128):f i=xs 128 (fun b=>f b&&R b i):=by
 rw [←sU 128 i hi f];refine dE fun b hb=>?_
 rw [UQ b hb];unfold e;by_cases h:b=i
 ·simp [h]
 ·have: ¬i=b:=fun h'=>h h'.symm
  simp [h,this]
theorem Ix(a n:Nat)(c:Nat→Bool)(g:Nat→Nat→Bool)(i:Nat):vY a (fun i=>xs n fun b=>c b&&g b i) i=xs n (fun b=>c b&&vY a (g b) i):=by
 induction n with
 | zero=>
  show vY a (fun _=>false) i=false;have: ∀a,vY a (fun _=>false)=fun _=>false:=by
   intro a
   induction a with
   | zero=>rfl
   | succ a ih=>rw [vY,ih];funext j;unfold xt;split<;>simp
  rw [this]
 | succ n ih=>
  have e1:(fun i=>xs (n+1) fun b=>c b&&g b i)=add (fun i=>xs n fun b=>c b&&g b i) (fun i=>c n&&g n i):=rfl;rw [e1,wI];unfold add;rw [ih,xs];congr 1;cases c n
  ·have: ∀a,vY a (fun _=>false)=fun _=>false:=by
    intro a
    induction a with
    | zero=>rfl
    | succ a ih=>rw [vY,ih];funext j;unfold xt;split<;>simp
   simp [this]
  ·simp
theorem Nk(a:Nat)(q:Nat→Bool)(i:Nat)(hi:i<128):vY a q i=xs 128 (fun b=>q b&&R (a+b) i):=by
 have h: ∀i,i<128→q i=(fun i=>xs 128 fun b=>q b&&R b i) i:=fun i hi=>Nj q i hi
 rw [ED a h i hi,Ix a 128 q R i];exact dE fun b _=>by rw [AF]
def gm(p q:Nat→Bool):Nat→Bool:=fun i=>xs 128 fun a=>xs 128 fun b=>(p a&&q b)&&R (a+b) i
def nD(p q:Nat→Bool):Nat→(Nat→Bool)
 | 0=>fun _=>false
 | k+1=>fun i=>xt (nD p q k) i ^^ (p (127 - k)&&q i)
theorem Iy(p q:Nat→Bool): ∀(k:Nat),k≤128→∀i,i<128→nD p q k i=xs k (fun j=>p (128 - k+j)&&vY j q i)
 | 0,_,i,_=>rfl
 | k+1,hk,i,hi=>by
  have ih:=Iy p q k (by omega);have h1:xt (nD p q k) i=xs k (fun j=>p (128 - k+j)&&vY (j+1) q i):=by
   rw [Iw (f:=nD p q k) (g:=fun i=>xs k fun j=>p (128 - k+j)&&vY j q i) ih i hi];exact Ix 1 k (fun j=>p (128 - k+j)) (fun j=>vY j q) i
  show(xt (nD p q k) i ^^ (p (127 - k)&&q i))=_;rw [h1];clear ih h1;have h2: ∀(n:Nat) (f:Nat→Bool),xs (n+1) f=(f 0 ^^ xs n fun j=>f (j+1)):=by
   intro n f
   induction n with
   | zero=>simp [xs]
   | succ n ih=>rw [xs,ih,xs];cases f 0<;>simp
  rw [h2,show 128 - (k+1)+0=127 - k by omega,Bool.xor_comm];congr 1;refine dE fun j _=>?_
  rw [show 128 - (k+1)+(j+1)=128 - k+j by omega]
theorem TP(p q:Nat→Bool)(i:Nat)(hi:i<128):nD p q 128 i=gm p q i:=by
 rw [Iy p q 128 (Nat.le_refl _) i hi];refine dE fun a _=>?_
 rw [show 128 - 128+a=a by omega,Nk a q i hi,←BR];refine dE fun b _=>?_
 cases p a<;>cases q b<;>simp
def conv(p q:Nat→Bool):Nat→Bool:=fun k=>xs 128 fun a=>xs 128 fun b=>(p a&&q b)&&decide (a+b=k)
def vm(i:Nat)(c:Nat→Bool):Nat→Bool:=fun k=>c k ^^ (c i&&(decide (k=i - 128)||decide (k=i - 127)||decide (k=i - 126)||decide (k=i - 121)))
def fold(c:Nat→Bool):Nat→(Nat→Bool)
 | 0=>c
 | n+1=>vm (255 - n) (fold c n)
theorem Ko(c:Nat→Bool)(m i:Nat)(hm:128≤m)(hi:i<128):xs m (fun k=>vm m c k&&R k i)=xs (m+1) (fun k=>c k&&R k i):=by
 rw [xs];have h1:xs m (fun k=>vm m c k&&R k i)=(xs m (fun k=>c k&&R k i) ^^ (c m&&(R (m - 128) i ^^ R (m - 127) i ^^ R (m - 126) i ^^ R (m - 121) i))):=by
  have e1: ∀k,k<m→(vm m c k&&R k i)=((c k&&R k i) ^^ (c m&&(((R k i&&decide (k=m - 128)) ^^ (R k i&&decide (k=m - 127))) ^^ (R k i&&decide (k=m - 126)) ^^ (R k i&&decide (k=m - 121))))):=by
   intro k _;unfold vm;by_cases h1:k=m - 128
   ·have a: ¬k=m - 127:=by omega
    have b: ¬k=m - 126:=by omega
    have d: ¬k=m - 121:=by omega
    simp only [h1,decide_true]at*;simp [a,b,d];cases c (m - 128)<;>cases R (m - 128) i<;>cases c m<;>simp
   ·by_cases h2:k=m - 127
    ·have b: ¬k=m - 126:=by omega
     have d: ¬k=m - 121:=by omega
     simp [h1,b,d];simp [h2];cases c (m - 127)<;>cases R (m - 127) i<;>cases c m<;>simp
    ·by_cases h3:k=m - 126
     ·have d: ¬k=m - 121:=by omega
      simp [h1,h2,d];simp [h3];cases c (m - 126)<;>cases R (m - 126) i<;>cases c m<;>simp
     ·by_cases h4:k=m - 121
      ·simp [h1,h2,h3];simp [h4];cases c (m - 121)<;>cases R (m - 121) i<;>cases c m<;>simp
      ·simp [h1,h2,h3,h4]
  rw [dE e1,yl,BR,yl,yl,yl,sU m (m - 128) (by omega),sU m (m - 127) (by omega),sU m (m - 126) (by omega),sU m (m - 121) (by omega)]
 have:=TN (m - 128) i hi;rw [show m - 128+128=m by omega,show m - 128+1=m - 127 by omega,show m - 128+2=m - 126 by omega,show m - 128+7=m - 121 by omega]at this;rw [h1,this]
theorem EE(c:Nat→Bool)(i:Nat)(hi:i<128)(N:Nat)(hN:N=256): ∀n,n≤128→xs (N - n) (fun k=>fold c n k&&R k i)=xs N (fun k=>c k&&R k i)
 | 0,_=>by rw [Nat.sub_zero];exact dE fun k _=>rfl
 | n+1,hn=>by
  have h:=Ko (fold c n) (255 - n) i (by omega) hi;rw [show 255 - n+1=N - n by omega]at h;rw [←EE c i hi N hN n (by omega),show N - (n+1)=255 - n by omega];exact h
theorem Nl(p q:Nat→Bool)(i n N:Nat)(hN: ∀a b,a<n→b<n→a+b<N):
  xs N (fun k=>(xs n fun a=>xs n fun b=>(p a&&q b)&&decide (a+b=k))&&R k i)=xs n fun a=>xs n fun b=>(p a&&q b)&&R (a+b) i:=by
 have e1: ∀k,k<N→((xs n fun a=>xs n fun b=>(p a&&q b)&&decide (a+b=k))&&R k i)=xs n fun a=>xs n fun b=>((p a&&q b)&&R (a+b) i)&&decide (a+b=k):=by
  intro k _;rw [Bool.and_comm,←BR];refine dE fun a _=>?_
  rw [←BR];refine dE fun b _=>?_
  by_cases h:a+b=k
  ·rw [h];cases R k i<;>simp
  ·simp [h]
 rw [dE e1,Iv];refine dE fun a ha=>?_
 rw [Iv];refine dE fun b hb=>?_
 have: ∀k,k<N→(((p a&&q b)&&R (a+b) i)&&decide (a+b=k))=(((p a&&q b)&&R (a+b) i)&&decide (k=a+b)):=by
  intro k _;congr 1;simp [eq_comm]
 rw [dE this,Ni N (a+b) (hN a b ha hb)]
theorem QV(p q:Nat→Bool)(i:Nat)(hi:i<128):fold (conv p q) 128 i=gm p q i:=by
 have h1:=EE (conv p q) i hi 256 rfl 128 (Nat.le_refl _);have h2:=Nj (fold (conv p q) 128) i hi;exact h2.trans (h1.trans (Nl p q i 128 256 fun a b ha hb=>by omega))
def num(p:Nat→Bool):Nat→Nat
 | 0=>0
 | n+1=>num p n+(if p n then 2^n else 0)
theorem kz(p:Nat→Bool): ∀n,num p n<2^n
 | 0=>Nat.one_pos
 | n+1=>by
  have:=kz p n;rw [num,Nat.pow_succ];split<;>omega
theorem dV(p:Nat→Bool): ∀(n i:Nat),(num p n).testBit i=(decide (i<n)&&p i)
 | 0,i=>by rw [num,Nat.zero_testBit];simp
 | n+1,i=>by
  rw [num];split
  ·rename_i hp;have h:=Nat.two_pow_add_eq_or_of_lt (kz p n) 1;rw [Nat.mul_one]at h;rw [Nat.add_comm,h,Nat.testBit_or,Nat.testBit_two_pow,dV p n i];by_cases e:n=i
   ·subst e;simp [hp]
   ·have:decide (i<n+1)=decide (i<n):=by rw [decide_eq_decide];omega
    rw [this];simp [e]
  ·rename_i hp;rw [Nat.add_zero,dV p n i];by_cases e:n=i
   ·subst e;simp [hp]
   ·have:decide (i<n+1)=decide (i<n):=by rw [decide_eq_decide];omega
    rw [this]
theorem fS{p q:Nat→Bool}{n:Nat}(h: ∀i,i<n→p i=q i):num p n=num q n:=by
 refine afx fun i=>?_
 rw [dV,dV];by_cases hi:i<n
 ·rw [h i hi]
 ·simp [hi]
theorem sV{x n:Nat}(hx:x<2^n)(i:Nat)(hi:n≤i):x.testBit i=false:=Nat.testBit_lt_two_pow (ae_ hx (Nat.pow_le_pow_right (by decide) hi))
def rev(x:Nat):Nat:=num (fun i=>x.testBit (63 - i)) 64
def BS(m k x:Nat):Nat:=((x >>> k) &&& m)|||((x &&& m)*2^k%2^64)
def flip(k i:Nat):Nat:=if i/k%2=0 then i+k else i - k
theorem lB(m k x:Nat)(hx:x<2^64):BS m k x<2^64:=by
 unfold BS;refine Nat.or_lt_two_pow (Nat.lt_of_le_of_lt Nat.and_le_left ?_) (afI _ (by decide));rw [Nat.shiftRight_eq_div_pow];exact Nat.lt_of_le_of_lt (Nat.div_le_self _ _) hx
theorem qg{m k x:Nat}(hk:k=1∨k=2∨k=4∨k=8∨k=16∨k=32)(hm: ∀i:Fin 64,m.testBit i.val=decide (i.val/k%2=0))(_:x<2^64)(i:Nat)(hi:i<64):
  (BS m k x).testBit i=x.testBit (flip k i):=by
 unfold BS flip;rw [Nat.testBit_or,Nat.testBit_and,Nat.testBit_shiftRight,hm ⟨i,hi⟩,Nat.testBit_mod_two_pow,←Nat.shiftLeft_eq,Nat.testBit_shiftLeft,Nat.testBit_and];simp only [hi,decide_true,Bool.true_and];by_cases h:i/k%2=0
 ·rw [if_pos h];have h2:(decide (i≥k)&&(x.testBit (i - k)&&m.testBit (i - k)))=false:=by
   by_cases RH:i≥k
   ·rw [hm ⟨i - k,by omega⟩];have: ¬(i - k)/k%2=0:=by rcases hk with rfl | rfl | rfl | rfl | rfl | rfl<;>omega
    simp [this]
   ·simp [RH]
  rw [h2];simp [h,Nat.add_comm]
 ·rw [if_neg h];have RH:i≥k:=by rcases hk with rfl | rfl | rfl | rfl | rfl | rfl<;>omega
  have h3:(i - k)/k%2=0:=by rcases hk with rfl | rfl | rfl | rfl | rfl | rfl<;>omega
  rw [hm ⟨i - k,by omega⟩];simp [h,RH,h3]
theorem Wt: ∀i:Fin 64,afH 6148914691236517205 i.val=decide (i.val/1%2=0):=by decide+kernel
theorem Wu: ∀i:Fin 64,afH 3689348814741910323 i.val=decide (i.val/2%2=0):=by decide+kernel
theorem Wv: ∀i:Fin 64,afH 1085102592571150095 i.val=decide (i.val/4%2=0):=by decide+kernel
theorem Ww: ∀i:Fin 64,afH 71777214294589695 i.val=decide (i.val/8%2=0):=by decide+kernel
theorem TQ: ∀i:Fin 64,afH 281470681808895 i.val=decide (i.val/16%2=0):=by decide+kernel
theorem TR: ∀i:Fin 64,afH 4294967295 i.val=decide (i.val/32%2=0):=by decide+kernel
theorem Wx: ∀i:Fin 64,flip 1 (flip 2 (flip 4 (flip 8 (flip 16 (flip 32 i.val)))))=63 - i.val:=by decide+kernel
theorem sW: ∀i:Fin 64,flip 32 i.val<64∧flip 16 i.val<64∧flip 8 i.val<64∧flip 4 i.val<64∧flip 2 i.val<64:=by decide+kernel
theorem Gx(x:Nat)(hx:x<2^64):(x >>> 32)|||(x*2^32%2^64)=BS 4294967295 32 x:=by
 unfold BS;have h1:x >>> 32 &&& 4294967295=x >>> 32:=by
  rw [show(4294967295:Nat)=2^32 - 1 by decide,Nat.and_two_pow_sub_one_eq_mod,afp];rw [Nat.shiftRight_eq_div_pow];omega
 have h2:(x &&& 4294967295)*2^32%2^64=x*2^32%2^64:=by
  rw [show(4294967295:Nat)=2^32 - 1 by decide,Nat.and_two_pow_sub_one_eq_mod];omega
 rw [h1,h2]
theorem rev_eq(x:Nat)(hx:x<2^64):BS 4294967295 32 (BS 281470681808895 16 (BS 71777214294589695 8 (BS 1085102592571150095 4 (BS 3689348814741910323 2 (BS 6148914691236517205 1 x)))))=rev x:=by
 have l1:=lB 6148914691236517205 1 x hx;have l2:=lB 3689348814741910323 2 _ l1;have l4:=lB 1085102592571150095 4 _ l2;have l8:=lB 71777214294589695 8 _ l4;have XY:=lB 281470681808895 16 _ l8;have l32:=lB 4294967295 32 _ XY;refine afx fun i=>?_
 unfold rev;rw [dV];by_cases hi:i<64
 ·have f1:=(sW ⟨i,hi⟩).1;have f2:=(sW ⟨_,f1⟩).2.1;have f3:=(sW ⟨_,f2⟩).2.2.1;have f4:=(sW ⟨_,f3⟩).2.2.2.1;have f5:=(sW ⟨_,f4⟩).2.2.2.2;rw [qg (by decide) TR XY i hi,qg (by decide) TQ l8 _ f1,qg (by decide) Ww l4 _ f2,qg (by decide) Wv l2 _ f3,qg (by decide) Wu l1 _ f4,qg (by decide) Wt hx _ f5,Wx ⟨i,hi⟩];simp [hi]
 ·rw [sV l32 i (by omega)];simp [hi]
def pb(B:Nat→Nat):Nat→Bool:=fun i=>(B (i/8)).testBit (7 - i%8)
def bp(p:Nat→Bool):Nat→Nat:=fun j=>num (fun k=>p (8*j+(7 - k))) 8
def mM(f:Nat→Nat):Nat→Nat
 | 0=>0
 | n+1=>mM f n*256+f n
theorem pJ(f:Nat→Nat)(hf: ∀j,f j<256): ∀n,mM f n<256^n
 | 0=>Nat.one_pos
 | n+1=>by
  have:=pJ f hf n;have:=hf n;rw [mM,Nat.pow_succ];omega
theorem BT(f:Nat→Nat)(hf: ∀j,f j<256): ∀(n i:Nat),i<8*n→(mM f n).testBit (8*n - 1 - i)=(f (i/8)).testBit (7 - i%8)
 | 0,i,h=>by omega
 | n+1,i,h=>by
  have hb:=hf n;rw [mM,Nat.mul_comm,show(256:Nat)=2^8 by decide,Nat.testBit_two_pow_mul_add _ (by omega)];split
  ·rename_i h8;rw [show i/8=n by omega,show 7 - i%8=8*(n+1) - 1 - i by omega]
  ·rename_i h8;rw [show 8*(n+1) - 1 - i - 8=8*n - 1 - i by omega];exact BT f hf n i (by omega)
theorem QW(B:Nat→Nat)(hB: ∀j,B j<256)(o:Nat):rev (mM (fun j=>B (o+j)) 8)=num (fun i=>pb B (8*o+i)) 64:=by
 unfold rev;refine fS fun i hi=>?_
 have:=BT (fun j=>B (o+j)) (fun j=>hB _) 8 i (by omega);rw [show 8*8 - 1 - i=63 - i by omega]at this;rw [this];unfold pb;rw [show(8*o+i)/8=o+i/8 by omega,show(8*o+i)%8=i%8 by omega]
theorem EF(p:Nat→Bool)(o j:Nat)(hj:j<8):rev (num (fun i=>p (8*o+i)) 64) >>> (56 - 8*j)%256=bp p (o+j):=by
 refine afx fun k=>?_
 unfold rev bp;rw [show(256:Nat)=2^8 by decide,Nat.testBit_mod_two_pow,Nat.testBit_shiftRight,dV,dV,dV];by_cases hk:k<8
 ·rw [show 8*o+(63 - (56 - 8*j+k))=8*(o+j)+(7 - k) by omega];simp [hk,show 56 - 8*j+k<64 by omega];omega
 ·simp [hk]
theorem Nm(p:Nat→Bool)(j:Nat):bp p j<256:=kz _ 8
theorem Wy(p:Nat→Bool)(i:Nat):pb (bp p) i=p i:=by
 unfold pb bp;rw [dV,show 8*(i/8)+(7 - (7 - i%8))=i by omega,decide_eq_true (show 7 - i%8<8 by omega)];simp
theorem TS(A B:Nat→Nat)(i:Nat):pb (fun j=>A j^^^B j) i=(pb A i ^^ pb B i):=by
 unfold pb;rw [Nat.testBit_xor]
theorem Iz(p q:Nat→Bool)(n:Nat):num p n^^^num q n=num (fun i=>p i ^^ q i) n:=by
 refine afx fun i=>?_
 rw [Nat.testBit_xor,dV,dV,dV];by_cases h:i<n<;>simp [h]
theorem IA(i:Nat):afH 1 i=decide (i=0):=by
 have:=Nat.testBit_two_pow (n:=0) (m:=i);rw [Nat.pow_zero]at this;rw [this];simp [eq_comm]
theorem IB(p:Nat→Bool):num p 64 >>> 63=if p 63 then 1 else 0:=by
 refine afx fun i=>?_
 rw [Nat.testBit_shiftRight,dV];by_cases h:i=0
 ·subst h;cases p 63<;>simp
 ·rw [show decide (63+i<64)=false by simp;omega];split
  ·rw [IA];simp [h]
  ·simp
theorem TU: ∀i:Fin 64,afH 135 i.val=(decide (i.val=0)||decide (i.val=1)||decide (i.val=2)||decide (i.val=7)):=by decide+kernel
theorem TV(f:Nat→Bool):(num f 64*2^1%2^64)^^^((num (fun i=>f (64+i)) 64 >>> 63)*135%2^64)=num (xt f) 64:=by
 rw [IB];refine afx fun i=>?_
 rw [Nat.testBit_xor,dV];by_cases hi:i<64
 ·rw [Nat.testBit_mod_two_pow,←Nat.shiftLeft_eq,Nat.testBit_shiftLeft,dV];have Zt:((if f (64+63)=true then 1 else 0)*135%2^64).testBit i=(f 127&&afH 135 i):=by
   cases f 127<;>simp
  rw [Zt,TU ⟨i,hi⟩];unfold xt;by_cases h0:i=0
  ·subst h0;simp
  ·simp [hi,h0,show i≥1 by omega,show i - 1<64 by omega]
 ·rw [sV (n:=64) (afI _ (by decide)) i (by omega),sV (n:=64) (afI _ (by decide)) i (by omega)];simp [hi]
theorem QX(f:Nat→Bool):(num (fun i=>f (64+i)) 64*2^1%2^64)|||(num f 64 >>> 63)=num (fun i=>xt f (64+i)) 64:=by
 rw [IB];refine afx fun i=>?_
 rw [Nat.testBit_or,dV];have h1:(if f 63=true then 1 else 0:Nat).testBit i=(f 63&&decide (i=0)):=by
  cases f 63<;>simp [IA]
 rw [h1];by_cases hi:i<64
 ·rw [Nat.testBit_mod_two_pow,←Nat.shiftLeft_eq,Nat.testBit_shiftLeft,dV];unfold xt;by_cases h0:i=0
  ·subst h0;simp
  ·simp [hi,h0,show i≥1 by omega,show i - 1<64 by omega,show 64+i - 1=64+(i - 1) by omega,show¬64+i=1 by omega,show¬64+i=2 by omega,show¬64+i=7 by omega]
 ·rw [sV (n:=64) (afI _ (by decide)) i (by omega)];simp [hi,show¬i=0 by omega]
theorem QY(x s:Nat):(x >>> s &&& 1)=1↔x.testBit s=true:=by
 rw [afH,Nat.and_comm];have h:1 &&& x >>> s=x >>> s%2:=Nat.one_and_eq_mod_two _;rw [h];have:=afI (x >>> s) (show 0<2 by decide);constructor
 ·intro e;rw [e];rfl
 ·intro e;have:x >>> s%2≠0:=by simpa using e
  omega
def mR(T:Nat→Nat)(len r j:Nat):Nat:=if 16*r+j<len then T (16*r+j)else 0
def gh(H:Nat→Bool)(T:Nat→Nat)(len:Nat):Nat→(Nat→Bool)
 | 0=>fun _=>false
 | r+1=>gm (add (gh H T len r) (pb (mR T len r))) H
def j5(H T:Nat→Nat)(len:Nat):Nat→Nat:=bp (gh (pb H) T len ((len+15)/16))
theorem Nn(T:Nat→Nat)(hT: ∀j,T j<256)(len r j:Nat):mR T len r j<256:=by
 unfold mR;split
 ·exact hT _
 ·decide
theorem yn(H T:Nat→Nat)(len j:Nat):j5 H T len j<256:=Nm _ j
end Go.Gh

namespace Go.RX.Fk
open Go Go.RX Go.Proofs Go.Ae Go.RX.Sh Go.RX.Fe Go.RX.Fg Go.RX.Fi Go.RX.Fj Go.Gh
theorem bJ{f:Nat}{args:List Value}{L B:List HP}{n:Nat}{T:Nat→Nat}(hm:aw ae0 f args L fun r hs=> ∃o:V1,r=o.v∧hs=[aj true o n T])(hL: ∀h∈L,au B h):
  aw ae0 f args B fun r hs=> ∃o:V1,r=o.v∧hs=B++[aj true o n T]:=by
 have h:aw ae0 f args ([]++L) fun r hs=> ∃nw,(∃o:V1,r=o.v∧nw=[aj true o n T])∧hs=[]++nw:=by
  refine aw.post hm ?_;rintro r hs ⟨o,hr,rfl⟩;exact⟨_,bX.refl _,_,⟨o,hr,rfl⟩,rfl⟩
 refine aw.post (aw.fp h (by simp) ?_ hL) ?_
 ·rintro v nw ⟨o,_,rfl⟩ h hh;simp only [afd,ae9,or_false]at hh;subst hh;rfl
 ·rintro r hs ⟨nw,⟨o,hr,rfl⟩,rfl⟩;exact⟨_,bX.refl _,o,hr,rfl⟩
theorem j6{f:Nat}{args:List Value}{L B:List HP}{Q:Value→Prop}(hm:aw ae0 f args L fun r hs=>Q r∧hs=[])(hL: ∀h∈L,au B h):
  aw ae0 f args B fun r hs=>Q r∧hs=B:=by
 have h:aw ae0 f args ([]++L) fun r hs=> ∃nw,(Q r∧nw=[])∧hs=[]++nw:=by
  refine aw.post hm ?_;rintro r hs ⟨hr,rfl⟩;exact⟨[],bX.refl _,[],⟨hr,rfl⟩,rfl⟩
 refine aw.post (aw.fp h (by simp) ?_ hL) ?_
 ·rintro v nw ⟨_,rfl⟩ h hh;cases hh
 ·rintro r hs ⟨nw,⟨hr,rfl⟩,rfl⟩;exact⟨B,by simpa using bX.refl B,hr,rfl⟩
theorem pK{p:HP→Prop}{a:HP}(h:p a): ∀x∈[a],p x:=by simpa using h
theorem EG{p:HP→Prop}{a b:HP}(h:p a)(h2:p b): ∀x∈[a,b],p x:=by simpa using ⟨h,h2⟩
theorem SS{p:HP→Prop}{a b c:HP}(h:p a)(h2:p b)(h3:p c): ∀x∈[a,b,c],p x:=by simpa using ⟨h,h2,h3⟩
theorem Np{p:HP→Prop}{a b c d:HP}(h:p a)(h2:p b)(h3:p c)(h4:p d): ∀x∈[a,b,c,d],p x:=by simpa using ⟨h,h2,h3,h4⟩
theorem QZ{p:HP→Prop}{a b c d e:HP}(h:p a)(h2:p b)(h3:p c)(h4:p d)(h5:p e): ∀x∈[a,b,c,d,e],p x:=by simpa using ⟨h,h2,h3,h4,h5⟩
def b1(b:Bool):Nat:=if b then 1 else 0
theorem dL(v0:V1)(T:Nat→Nat)(hT: ∀j,T j<256)(i:Nat)(hi:i<128):aw ae0 155 [v0.v,.int .i64 (i:Int)] [aj false v0 16 T] fun r hs=>r= .int .i64 (b1 (pb T i):Nat)∧hs=[]:=by
 refine aw.post (p:=fun r _=>r= .int .i64 (b1 (pb T i):Nat)) ?_ fun v hs h=>⟨[],bX.sub (List.nil_sublist _),h,rfl⟩
 refine O2 _ (i:Int) (fun j=>(T j:Nat)) v0 ?_;unfold Hq;have hq:ae .i64 (ak .quo .i64 (i:Int) 8)=((i/8:Nat):Int):=Nh i 8 (by omega);have hr:ak .rem .i64 (i:Int) 8=((i%8:Nat):Int):=rfl;rw [hq,hr,afe];dsimp only;have hb:=hT (i/8)
 iterate 4 refine⟨by omega,fun _=>?_⟩
 refine⟨fun e=> ∃k:Nat,i%8≤k∧k≤7∧e.i=[(k:Int),((T (i/8)/2^(k - i%8):Nat):Int)],fun e=>((7:Int) - e.i.getD 0 0).toNat,⟨_,_,rfl,rfl,i%8,Nat.le_refl _,by omega,?_⟩,?_⟩
 ·rw [Nat.sub_self,Nat.pow_zero,Nat.div_one]
 rintro x1 x2 ⟨k,IC,Bb,hx⟩;simp only [ae8,and_true]at hx;obtain⟨rfl,rfl⟩:=hx;have hd:T (i/8)/2^(k - i%8)<256:=Nat.lt_of_le_of_lt (Nat.div_le_self _ _) hb;refine⟨fun bU=>⟨by omega,fun _=>⟨by omega,fun _=>⟨_,_,rfl,rfl,⟨k+1,by omega,by omega,?_⟩,?_⟩⟩⟩,fun iH=>?_⟩
 ·have h2:ae .i64 (ak .quo .i64 ((T (i/8)/2^(k - i%8):Nat):Int) 2)=((T (i/8)/2^(k - i%8)/2:Nat):Int):=Nh _ 2 (by omega);rw [h2,Nat.div_div_eq_div_mul,←Nat.pow_succ,show(k - i%8).succ=k+1 - i%8 by omega];rfl
 ·simp only [ah];omega
 ·have h7:k=7:=by omega
  subst h7;have h2:ak .rem .i64 ((T (i/8)/2^(7 - i%8):Nat):Int) 2=((T (i/8)/2^(7 - i%8)%2:Nat):Int):=rfl;show Value.int _ (ak .rem .i64 ((T (i/8)/2^(7 - i%8):Nat):Int) 2)=_;rw [h2];congr 2;unfold b1 pb;rw [Nat.testBit_eq_decide_div_mod_eq];have:=afI (T (i/8)/2^(7 - i%8)) (show 0<2 by decide);by_cases h:T (i/8)/2^(7 - i%8)%2=1
  ·simp [h]
  ·have h0:T (i/8)/2^(7 - i%8)%2=0:=by omega
   simp [h0]
theorem AG{B:List HP}{x:Value}(hx:x.oneCell'=true)(T:Nat→Nat)(hT: ∀j,T j<256)(i:Nat)(hi:i<128)(hb:au B (aB x 16 T)):aw ae0 155 [x,.int .i64 (i:Int)] B fun r hs=>r= .int .i64 (b1 (pb T i):Nat)∧hs=B:=
 j6 (dL ⟨x,hx⟩ T hT i hi) (pK hb)
def pc(p q:Nat→Bool)(i k m:Nat):Bool:=xs i (fun a=>xs 128 fun b=>(p a&&q b)&&decide (a+b=m)) ^^ xs k (fun b=>(p i&&q b)&&decide (i+b=m))
theorem IE(p q:Nat→Bool)(i m:Nat):pc p q i 128 m=pc p q (i+1) 0 m:=by
 unfold pc;rw [show∀f:Nat→Bool,xs (i+1) f=(xs i f ^^ f i)from fun _=>rfl,show∀f:Nat→Bool,xs 0 f=false from fun _=>rfl,Bool.xor_false]
theorem Q0{p:Nat→Bool}(q:Nat→Bool){i:Nat}(h:p i=false)(m:Nat):pc p q i 0 m=pc p q (i+1) 0 m:=by
 rw [←IE];unfold pc;rw [show∀f:Nat→Bool,xs 0 f=false from fun _=>rfl];have:xs 128 (fun b=>(p i&&q b)&&decide (i+b=m))=false:=by
  rw [←ym 128];exact dE fun j _=>by rw [h];rfl
 rw [this]
theorem Q1(p q:Nat→Bool)(i k m:Nat):pc p q i (k+1) m=(pc p q i k m ^^ ((p i&&q k)&&decide (i+k=m))):=by
 unfold pc;rw [xs,Bool.xor_assoc]
theorem TW(p q:Nat→Bool)(m:Nat):pc p q 128 0 m=conv p q m:=by
 unfold pc conv
 rw [show xs 0 _=false from rfl,Bool.xor_false]
theorem IF(s:Nat)(b:Bool):decide ((s+b1 b)%2=1)=(decide (s%2=1) ^^ b):=by
 cases b
 ·simp [b1]
 ·simp only [b1,if_true,Bool.xor_true];rcases Nat.mod_two_eq_zero_or_one s with h | h
  ·have:(s+1)%2=1:=by omega
   simp [h,this]
  ·have:(s+1)%2=0:=by omega
   simp [h,this]
def Kp(p:Nat→Bool)(c:Nat):Nat→Nat
 | 0=>0
 | k+1=>2*Kp p c k+b1 (p (c+k))
theorem IG(p:Nat→Bool)(c:Nat): ∀k,Kp p c k<2^k
 | 0=>by show 0<1;decide
 | k+1=>by
  have:=IG p c k;rw [Kp,Nat.pow_succ];have:b1 (p (c+k))≤1:=by unfold b1;split<;>omega
  omega
theorem Q2(p:Nat→Bool)(j:Nat):Kp p (8*j) 8=bp p j:=by
 unfold bp;simp only [Kp,num,Nat.add_zero,Nat.sub_zero];have key: ∀b0 b1' b2 b3 b4 b5 b6 b7:Bool,2*(2*(2*(2*(2*(2*(2*(2*0+b1 b0)+b1 b1')+b1 b2)+b1 b3)+b1 b4)+b1 b5)+b1 b6)+b1 b7=0+(if b7 then 2^0 else 0)+(if b6 then 2^1 else 0)+(if b5 then 2^2 else 0)+(if b4 then 2^3 else 0)+(if b3 then 2^4 else 0)+(if b2 then 2^5 else 0)+(if b1' then 2^6 else 0)+(if b0 then 2^7 else 0):=by decide+kernel
 exact key _ _ _ _ _ _ _ _
end Go.RX.Fk
