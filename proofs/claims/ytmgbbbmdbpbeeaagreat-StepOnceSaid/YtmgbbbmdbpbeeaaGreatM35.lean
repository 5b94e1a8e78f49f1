/- Frames. -/
import Derived.Test.YtmgbbbmdbpbeeaaGreatM34
open Classical renaming not_not → ai4
open Go.IntKind renaming wrap → ae
open Go.Proofs.Tryz renaming prog → aiT
open Int renaming toNat → ag, toNat_natCast → aiX
open List renaming getD_cons_zero → ah, map_congr_left → ajq, mem_range → ai8
open List.cons renaming injEq → ai5
open Nat renaming lt_of_lt_of_le → ai1, mod_eq_of_lt → ajm
open Option renaming map_some → ajI
open Option.some renaming injEq → aiP
namespace Go.RX.Fl
open Go Go.RX Go.Proofs Go.RX.Sh Go.RX.Fg Go.RX.Fi Go.RX.Fj Go.RX.Fk Go.Hd Go.Gh Go.Gc Go.Ae Go.RX.Fe Go.Se
def pg(n:Nat):Nat:=if n=0 then 1 else dg n
theorem ZG(n i:Nat)(hn:n<18446744073709551616)(h0:n/256^i=0)(h1:n/256^(i - 1)≠0)(hi:1≤i):dg n=i:=by
 have i8:i≤8:=by
  refine Classical.byContradiction fun h=>h1 ?_
  refine Nat.div_eq_of_lt (ai1 hn ?_);exact Nat.le_trans (by decide:18446744073709551616≤256^8) (Nat.pow_le_pow_right (by decide) (by omega))
 have n0:n≠0:=fun h=>h1 (by rw [h,Nat.zero_div])
 unfold dg;rw [if_neg n0]
 match i,hi,i8 with
 | 1,_,_=>simp only [Nat.reducePow,Nat.reduceSub]at h0 h1;rw [if_pos (by omega)]
 | 2,_,_=>simp only [Nat.reducePow,Nat.reduceSub]at h0 h1;rw [if_neg (by omega),if_pos (by omega)]
 | 3,_,_=>simp only [Nat.reducePow,Nat.reduceSub]at h0 h1;rw [if_neg (by omega),if_neg (by omega),if_pos (by omega)]
 | 4,_,_=>simp only [Nat.reducePow,Nat.reduceSub]at h0 h1;rw [if_neg (by omega),if_neg (by omega),if_neg (by omega),if_pos (by omega)]
 | 5,_,_=>simp only [Nat.reducePow,Nat.reduceSub]at h0 h1;rw [if_neg (by omega),if_neg (by omega),if_neg (by omega),if_neg (by omega),if_pos (by omega)]
 | 6,_,_=>simp only [Nat.reducePow,Nat.reduceSub]at h0 h1;rw [if_neg (by omega),if_neg (by omega),if_neg (by omega),if_neg (by omega),if_neg (by omega),if_pos (by omega)]
 | 7,_,_=>simp only [Nat.reducePow,Nat.reduceSub]at h0 h1;rw [if_neg (by omega),if_neg (by omega),if_neg (by omega),if_neg (by omega),if_neg (by omega),if_neg (by omega),if_pos (by omega)]
 | 8,_,_=>simp only [Nat.reducePow,Nat.reduceSub]at h0 h1;rw [if_neg (by omega),if_neg (by omega),if_neg (by omega),if_neg (by omega),if_neg (by omega),if_neg (by omega),if_neg (by omega)]
 | i+9,_,h=>exact absurd h (by omega)
theorem Wj(n i:Nat)(hn:n<18446744073709551616)(h0:n/256^i=0)(h1:i=1∨n/256^(i - 1)≠0)(hi:1≤i):pg n=i:=by
 unfold pg;by_cases n0:n=0
 ·rw [if_pos n0];rcases h1 with h | h
  ·exact h.symm
  ·exact absurd (by rw [n0,Nat.zero_div]) h
 ·rw [if_neg n0];refine ZG n i hn h0 ?_ hi;rcases h1 with rfl | h
  ·rw [Nat.sub_self,Nat.pow_zero,Nat.div_one];exact n0
  ·exact h
theorem WZ{n:Nat}(h: ¬n<8):hb n=pg n:=by
 unfold hb pg;rw [if_neg h,if_neg (by omega)]
theorem PL(n:Nat):pg n≤8:=by
 unfold pg;split
 ·decide
 ·exact JQ n
theorem wG(n:Nat)(hn:n<18446744073709551616):ax aiT 70 [.int .u64 (n:Int)] [] fun r hs=> ∃o:V1,r=o.v∧hs=[aq true o (pg n) (be (pg n) n)]:=by
 refine Mf _ (n:Int) ?_;unfold BM;intro b0 v0;rw [ZE hn,ZF];refine⟨fun e=> ∃i:Nat,1≤i∧i≤8∧(i=1∨n/256^(i - 1)≠0)∧e.i=[((n/256^i:Nat):Int),(i:Int)]∧∀j,j<i→(e.a.getD 0 fun _=>0) j=(be i n j:Nat),fun e=>(e.i.getD 0 0).toNat,⟨v0,_,_,_,rfl,rfl,rfl,rfl,fun _ _=>rfl,1,by omega,by omega,.inl rfl,?_,?_⟩,?_⟩
 ·rw [Nat.pow_one];rfl
 ·intro j hj;simp only [ah];unfold be;rw [show 1 - 1 - j=0 by omega,Nat.pow_zero,Nat.div_one]
 rintro v1 x1 x2 A0 ⟨i,Gy,hi8,n7,hx,hA⟩;simp only [ai5,and_true]at hx;obtain⟨rfl,rfl⟩:=hx;simp only [ah]at hA;have hq:n/256^i<2^64:=Nat.lt_of_le_of_lt (Nat.div_le_self _ _) hn;have hd:n/256^i/256=n/256^(i+1):=by rw [Nat.div_div_eq_div_mul,←Nat.pow_succ]
 refine⟨fun bX b1=>?_,fun jI=>?_⟩
 ·have dI:n/256^i≠0:=by omega
  have i7:i≤7:=by
   refine Classical.byContradiction fun h=>dI ?_
   refine Nat.div_eq_of_lt (ai1 hn ?_);exact Nat.le_trans (by decide:18446744073709551616≤256^8) (Nat.pow_le_pow_right (by decide) (by omega))
  rw [ZE hq,ZF,hd];refine⟨by omega,fun _=>⟨by omega,fun _=>⟨by omega,fun _ v2=>?_⟩⟩⟩;refine⟨v2,_,_,_,rfl,rfl,rfl,rfl,fun _ _=>rfl,⟨i+1,by omega,by omega,.inr (by rw [Nat.add_sub_cancel];exact dI),?_,?_⟩,?_⟩
  ·rw [show(1:Int)+(i:Int)=((i+1:Nat):Int) by omega]
  ·intro j hj;simp only [ah];show ay (fun _=>((n/256^i%256:Nat):Int)) 1 (ag (i:Int)) A0 j=_;rw [aiX];unfold ay;by_cases c:j=0
   ·subst c;rw [if_neg (by omega)];unfold be;rw [show i+1 - 1 - 0=i by omega]
   ·rw [if_pos (by omega),hA (j - 1) (by omega)];unfold be;rw [show i - 1 - (j - 1)=i+1 - 1 - j by omega]
  ·simp only [ah];have:n/256^(i+1)<n/256^i:=by
    rw [←hd];exact Nat.div_lt_self (Nat.pos_of_ne_zero dI) (by decide)
   omega
 ·have h0:n/256^i=0:=Nat.eq_zero_of_not_pos fun h=>jI (Int.ofNat_lt.2 h)
  have e:=Wj n i hn h0 n7 Gy;refine⟨v1,rfl,?_⟩;unfold aq;dsimp only [bo,bi,bn];rw [e,aiX,bJ hA]
theorem j6(aY br:Nat)(hk:aY<18446744073709551616)(hc:br<18446744073709551616):
  ax aiT 31 [.agg #[.int .u64 (aY:Int),.int .u64 (br:Int)]] [] fun r hs=> ∃o:V1,r=o.v∧hs=[aq true o (bS aY br) (dM aY br)]:=by
 refine SU _ (aY:Int) (br:Int) ?_;unfold J2;intro b0;refine⟨_,wG aY hk,?_⟩;rintro x hs ⟨v0,rfl,rfl⟩;refine⟨v0,(pg aY:Nat),fun j=>(be (pg aY) aY j:Nat),rfl,rfl,?_⟩;refine⟨_,wG br hc,?_⟩;rintro x hs ⟨v1,rfl,rfl⟩;refine⟨v1,(pg br:Nat),fun j=>(be (pg br) br j:Nat),rfl,rfl,?_⟩;have d0:=PL aY;have d1:=PL br;have fin: ∀(o:V1) (x:Int) (n m:Nat) (F G:Nat→Int),ae .u8 x=((ik aY*16+ik br:Nat):Int)→n=hb aY→m=hb br→(∀j,j<n→F j=(be (hb aY) aY j:Nat))→(∀j,j<m→G j=(be (hb br) br j:Nat))→
   [aG true 5 1 o.v (1+n+m) (aW (1+n+m) [bd .u8 1 (ay (ay (fun _=>ae .u8 x) 1 n F) (1+n) m G)])]=[aq true o (bS aY br) (dM aY br)]:=by
  intro o x n m F G hx hn hm hF hG;subst hn;subst hm;unfold aq bS;congr 2;refine bJ fun j hj=>?_
  unfold ay dM;by_cases c0:j=0
  ·rw [if_neg (by omega),if_neg (by omega),if_pos c0,hx]
  ·by_cases c1:j<1+hb aY
   ·rw [if_neg (by omega),if_pos (by omega),if_neg c0,if_pos c1,hF _ (by omega)]
   ·rw [if_pos (by omega),if_neg c0,if_neg c1,hG _ (by omega)]
 have w8: ∀a:Nat,a<256→ae .u8 (a:Int)=(a:Int):=fun a h=>by rw [wrap_u8,ajm h]
 refine⟨fun hk8=>?_,fun hk8=>?_⟩
 ·have n1:ik aY=aY:=by unfold ik;rw [if_pos (by omega)]
  have b1:hb aY=0:=ef (by omega)
  iterate 4 refine⟨by omega,fun _=>?_⟩
  refine⟨fun hc8=>?_,fun hc8=>?_⟩
  ·have n2:ik br=br:=by unfold ik;rw [if_pos (by omega)]
   have b2:hb br=0:=ef (by omega)
   iterate 3 refine⟨by omega,fun _=>?_⟩
   refine⟨by omega,fun _ b3 v2 v3=>⟨v3,rfl,?_⟩⟩;refine fin v3 _ 0 0 _ _ ?_ b1.symm b2.symm (fun j hj=>absurd hj (by omega)) (fun j hj=>absurd hj (by omega));rw [show(16:Int)*(aY:Int)+(br:Int)=((ik aY*16+ik br:Nat):Int) by omega];exact w8 _ (by omega)
  ·have n2:ik br=7+pg br:=by
    have:=WZ (n:=br) (by omega);unfold ik;rw [if_neg (by omega),←this];unfold hb;rw [if_neg (by omega)]
   have b2:hb br=pg br:=WZ (by omega)
   iterate 6 refine⟨by omega,fun _=>?_⟩
   refine⟨by omega,fun _ b3 v2=>⟨by omega,fun _ v3=>⟨v3,rfl,?_⟩⟩⟩;have:=fin v3 (16*(aY:Int)+8+((pg br:Nat):Int) - 1) 0 (pg br) (fun _=>0) (fun j=>((be (pg br) br j:Nat):Int)) ?_ b1.symm b2.symm (fun j hj=>absurd hj (by omega)) (fun j hj=>by rw [b2])
   ·dsimp only [bo,bi,bn];rw [show ag ((1:Int)+((pg br:Nat):Int))=1+0+pg br by omega];exact this
   ·rw [show(16:Int)*(aY:Int)+8+((pg br:Nat):Int) - 1=((ik aY*16+ik br:Nat):Int) by omega];exact w8 _ (by omega)
 ·have n1:ik aY=7+pg aY:=by
   have:=WZ (n:=aY) (by omega);unfold ik;rw [if_neg (by omega),←this];unfold hb;rw [if_neg (by omega)]
  have b1:hb aY=pg aY:=WZ (by omega);have t1:ag ((1:Int)+((pg aY:Nat):Int))=1+pg aY:=by omega
  rw [t1]
  iterate 7 refine⟨by omega,fun _=>?_⟩
  refine⟨fun hc8=>?_,fun hc8=>?_⟩
  ·have n2:ik br=br:=by unfold ik;rw [if_pos (by omega)]
   have b2:hb br=0:=ef (by omega)
   iterate 3 refine⟨by omega,fun _=>?_⟩
   refine⟨by omega,fun _ b3=>⟨by omega,fun _ v2=>⟨by omega,fun _ v3=>⟨v3,rfl,?_⟩⟩⟩⟩;refine fin v3 _ (pg aY) 0 _ _ ?_ b1.symm b2.symm (fun j hj=>by rw [b1]) (fun j hj=>absurd hj (by omega));rw [show(16:Int)*(8+((pg aY:Nat):Int) - 1)+(br:Int)=((ik aY*16+ik br:Nat):Int) by omega];exact w8 _ (by omega)
  ·have n2:ik br=7+pg br:=by
    have:=WZ (n:=br) (by omega);unfold ik;rw [if_neg (by omega),←this];unfold hb;rw [if_neg (by omega)]
   have b2:hb br=pg br:=WZ (by omega)
   iterate 6 refine⟨by omega,fun _=>?_⟩
   refine⟨by omega,fun _ b3=>⟨by omega,fun _ v2=>⟨by omega,fun _=>⟨by omega,fun _ v3=>⟨v3,rfl,?_⟩⟩⟩⟩⟩;dsimp only [bo,bi,bn];rw [show ag ((1:Int)+((pg aY:Nat):Int)+((pg br:Nat):Int))=1+pg aY+pg br by omega];refine fin v3 _ (pg aY) (pg br) _ _ ?_ b1.symm b2.symm (fun j hj=>by rw [b1]) (fun j hj=>by rw [b2]);rw [show(16:Int)*(8+((pg aY:Nat):Int) - 1)+8+((pg br:Nat):Int) - 1=((ik aY*16+ik br:Nat):Int) by omega];exact w8 _ (by omega)
theorem BH{B:List HP}(aY br:Nat)(hk:aY<18446744073709551616)(hc:br<18446744073709551616):ax aiT 31 [.agg #[.int .u64 (aY:Int),.int .u64 (br:Int)]] B fun r hs=> ∃o:V1,r=o.v∧hs=B++[aq true o (bS aY br) (dM aY br)]:=
 kE (j6 aY br hk hc) (by simp)
end Go.RX.Fl

namespace Go.RX.ZH
open Go.RX
def yZ(g:SV→SV→List SV)(h:List Ck):List Ck:=
 match h.reverse.findIdx? (fun | .row _ true [.int .u64 _,.int .u64 _]=>true | _=>false)with
 | some i=>match h.reverse[i]? with
  | some (.row b w [x,y])=>(h.reverse.set i (.row b w (g x y))).reverse
  | _=>h
 | none=>h
def loops(f id:Nat):Option dO:=
 match f,id with
 | 24,0=>some {inc:={i:=2},aO:=fun c=>[(7,.int .i64 (.var c.i))],hp:=fun c h=>yZ (fun _ y=>[.int .u64 (.var (c.i+1)),y]) h}
 | 24,2=>some {inc:={i:=2},aO:=fun c=>[(8,.int .i64 (.var c.i))],hp:=fun c h=>yZ (fun x _=>[x,.int .u64 (.var (c.i+1))]) h}
 | _,_=>none
open Go.RX Go.Proofs Go.RX.Fe Go.RX.Fg Go.RX.Fi Go.RX.Fj Go.RX.Fk
noncomputable def cx:Ctx:={T:=TT,FT:=FT,loops:=ZH.loops,bB:=Fl.bB}
set_option maxRecDepth 100000
def Gn(ao:PT)(x0:Int)(A0:Nat→Int)(_:V1):Prop:=
 ∀_:Nat,aw (0≤x0) (
 aJ (x0=0) (
 ao (.tuple #[.agg #[.int .u64 0,.int .u64 0],.int .i64 0]) []) (
 aw (0<x0) (
 aJ (128≤(A0 0)) (
 cg (ae .u8 (ak .quo .u8 (A0 0) 16)) ((
 cg ((ae .u8 (ak .quo .u8 (A0 0) 16)) - 7) ((
 aJ (8≤(ak .rem .u8 (A0 0) 16)) (
 cg (ak .rem .u8 (A0 0) 16) ((
 cg ((ak .rem .u8 (A0 0) 16) - 7) ((
 cg (1+((ae .u8 (ak .quo .u8 (A0 0) 16)) - 7)) ((
 cg ((1+((ae .u8 (ak .quo .u8 (A0 0) 16)) - 7))+((ak .rem .u8 (A0 0) 16) - 7)) ((
 aJ (x0<((1+((ae .u8 (ak .quo .u8 (A0 0) 16)) - 7))+((ak .rem .u8 (A0 0) 16) - 7))) (
 ao (.tuple #[.agg #[.int .u64 0,.int .u64 0],.int .i64 0]) []) (
 ∀_:Nat,aJ (0<((ae .u8 (ak .quo .u8 (A0 0) 16)) - 7)) (
 aJ (0<((ak .rem .u8 (A0 0) 16) - 7)) (
 ∃(dU:Ext→Prop) (gw:Ext→Nat),(∃x1 x2:Int,x1=0∧x2=0∧dU ⟨[],[],[x1,x2],[],[],[],[]⟩)∧
 ∀x1 x2:Int,dU ⟨[],[],[x1,x2],[],[],[],[]⟩→
 aJ (x1<((ae .u8 (ak .quo .u8 (A0 0) 16)) - 7)) (
 cg (1+x1) ((
 aw (0≤(1+x1)) (
 aw ((1+x1)<x0) (
 cg (x1+1) ((
 ∃dr ei:Int,dr=(x1+1)∧ei=(ae .u64 ((ae .u64 (256*x2))+(ae .u64 (A0 (ag (1+x1))))))∧dU ⟨[],[],[dr,ei],[],[],[],[]⟩∧gw ⟨[],[],[dr,ei],[],[],[],[]⟩<gw ⟨[],[],[x1,x2],[],[],[],[]⟩))))))) (
 ∃(jg:Ext→Prop) (mr:Ext→Nat),(∃x3 x4:Int,x3=0∧x4=0∧jg ⟨[],[],[x3,x4],[],[],[],[]⟩)∧
 ∀x3 x4:Int,jg ⟨[],[],[x3,x4],[],[],[],[]⟩→
 aJ (x3<((ak .rem .u8 (A0 0) 16) - 7)) (
 cg (1+((ae .u8 (ak .quo .u8 (A0 0) 16)) - 7)) ((
 cg ((1+((ae .u8 (ak .quo .u8 (A0 0) 16)) - 7))+x3) ((
 aw (0≤((1+((ae .u8 (ak .quo .u8 (A0 0) 16)) - 7))+x3)) (
 aw (((1+((ae .u8 (ak .quo .u8 (A0 0) 16)) - 7))+x3)<x0) (
 cg (x3+1) ((
 ∃dJ dT:Int,dJ=(x3+1)∧dT=(ae .u64 ((ae .u64 (256*x4))+(ae .u64 (A0 (ag ((1+((ae .u8 (ak .quo .u8 (A0 0) 16)) - 7))+x3))))))∧jg ⟨[],[],[dJ,dT],[],[],[],[]⟩∧mr ⟨[],[],[dJ,dT],[],[],[],[]⟩<mr ⟨[],[],[x3,x4],[],[],[],[]⟩))))))))) (
 cg (1+((ae .u8 (ak .quo .u8 (A0 0) 16)) - 7)) ((
 cg ((1+((ae .u8 (ak .quo .u8 (A0 0) 16)) - 7))+((ak .rem .u8 (A0 0) 16) - 7)) ((
 aw (0≤((1+((ae .u8 (ak .quo .u8 (A0 0) 16)) - 7))+((ak .rem .u8 (A0 0) 16) - 7))) (
 aw (((1+((ae .u8 (ak .quo .u8 (A0 0) 16)) - 7))+((ak .rem .u8 (A0 0) 16) - 7))≤x0) (
 Cl 31 [.agg #[.int .u64 x2,.int .u64 x4]] [] fun x hs _=> ∃(v1:V1) (x5:Int) (A1:Nat→Int),x=v1.v∧hs=[bo v1 x5 A1]∧
 aJ (¬(cd (jx A1 x5)=cd (jx A0 ((1+((ae .u8 (ak .quo .u8 (A0 0) 16)) - 7))+((ak .rem .u8 (A0 0) 16) - 7))))) (
 ao (.tuple #[.agg #[.int .u64 0,.int .u64 0],.int .i64 0]) []) (
 ao (.tuple #[.agg #[.int .u64 x2,.int .u64 x4],.int .i64 ((1+((ae .u8 (ak .quo .u8 (A0 0) 16)) - 7))+((ak .rem .u8 (A0 0) 16) - 7))]) [])))))))))) (
 ∃(dU:Ext→Prop) (gw:Ext→Nat),(∃x1 x2:Int,x1=0∧x2=0∧dU ⟨[],[],[x1,x2],[],[],[],[]⟩)∧
 ∀x1 x2:Int,dU ⟨[],[],[x1,x2],[],[],[],[]⟩→
 aJ (x1<((ae .u8 (ak .quo .u8 (A0 0) 16)) - 7)) (
 cg (1+x1) ((
 aw (0≤(1+x1)) (
 aw ((1+x1)<x0) (
 cg (x1+1) ((
 ∃dr ei:Int,dr=(x1+1)∧ei=(ae .u64 ((ae .u64 (256*x2))+(ae .u64 (A0 (ag (1+x1))))))∧dU ⟨[],[],[dr,ei],[],[],[],[]⟩∧gw ⟨[],[],[dr,ei],[],[],[],[]⟩<gw ⟨[],[],[x1,x2],[],[],[],[]⟩))))))) (
 ∃(jg:Ext→Prop) (mr:Ext→Nat),(∃x3 x4:Int,x3=0∧x4=(ae .u64 (ak .rem .u8 (A0 0) 16))∧jg ⟨[],[],[x3,x4],[],[],[],[]⟩)∧
 ∀x3 x4:Int,jg ⟨[],[],[x3,x4],[],[],[],[]⟩→
 aJ (x3<((ak .rem .u8 (A0 0) 16) - 7)) (
 cg (1+((ae .u8 (ak .quo .u8 (A0 0) 16)) - 7)) ((
 cg ((1+((ae .u8 (ak .quo .u8 (A0 0) 16)) - 7))+x3) ((
 aw (0≤((1+((ae .u8 (ak .quo .u8 (A0 0) 16)) - 7))+x3)) (
 aw (((1+((ae .u8 (ak .quo .u8 (A0 0) 16)) - 7))+x3)<x0) (
 cg (x3+1) ((
 ∃dJ dT:Int,dJ=(x3+1)∧dT=(ae .u64 ((ae .u64 (256*x4))+(ae .u64 (A0 (ag ((1+((ae .u8 (ak .quo .u8 (A0 0) 16)) - 7))+x3))))))∧jg ⟨[],[],[dJ,dT],[],[],[],[]⟩∧mr ⟨[],[],[dJ,dT],[],[],[],[]⟩<mr ⟨[],[],[x3,x4],[],[],[],[]⟩))))))))) (
 cg (1+((ae .u8 (ak .quo .u8 (A0 0) 16)) - 7)) ((
 cg ((1+((ae .u8 (ak .quo .u8 (A0 0) 16)) - 7))+((ak .rem .u8 (A0 0) 16) - 7)) ((
 aw (0≤((1+((ae .u8 (ak .quo .u8 (A0 0) 16)) - 7))+((ak .rem .u8 (A0 0) 16) - 7))) (
 aw (((1+((ae .u8 (ak .quo .u8 (A0 0) 16)) - 7))+((ak .rem .u8 (A0 0) 16) - 7))≤x0) (
 Cl 31 [.agg #[.int .u64 x2,.int .u64 x4]] [] fun x hs _=> ∃(v1:V1) (x5:Int) (A1:Nat→Int),x=v1.v∧hs=[bo v1 x5 A1]∧
 aJ (¬(cd (jx A1 x5)=cd (jx A0 ((1+((ae .u8 (ak .quo .u8 (A0 0) 16)) - 7))+((ak .rem .u8 (A0 0) 16) - 7))))) (
 ao (.tuple #[.agg #[.int .u64 0,.int .u64 0],.int .i64 0]) []) (
 ao (.tuple #[.agg #[.int .u64 x2,.int .u64 x4],.int .i64 ((1+((ae .u8 (ak .quo .u8 (A0 0) 16)) - 7))+((ak .rem .u8 (A0 0) 16) - 7))]) []))))))))))) (
 aJ (0<((ak .rem .u8 (A0 0) 16) - 7)) (
 ∃(dU:Ext→Prop) (gw:Ext→Nat),(∃x1 x2:Int,x1=0∧x2=(ae .u64 (ae .u8 (ak .quo .u8 (A0 0) 16)))∧dU ⟨[],[],[x1,x2],[],[],[],[]⟩)∧
 ∀x1 x2:Int,dU ⟨[],[],[x1,x2],[],[],[],[]⟩→
 aJ (x1<((ae .u8 (ak .quo .u8 (A0 0) 16)) - 7)) (
 cg (1+x1) ((
 aw (0≤(1+x1)) (
 aw ((1+x1)<x0) (
 cg (x1+1) ((
 ∃dr ei:Int,dr=(x1+1)∧ei=(ae .u64 ((ae .u64 (256*x2))+(ae .u64 (A0 (ag (1+x1))))))∧dU ⟨[],[],[dr,ei],[],[],[],[]⟩∧gw ⟨[],[],[dr,ei],[],[],[],[]⟩<gw ⟨[],[],[x1,x2],[],[],[],[]⟩))))))) (
 ∃(jg:Ext→Prop) (mr:Ext→Nat),(∃x3 x4:Int,x3=0∧x4=0∧jg ⟨[],[],[x3,x4],[],[],[],[]⟩)∧
 ∀x3 x4:Int,jg ⟨[],[],[x3,x4],[],[],[],[]⟩→
 aJ (x3<((ak .rem .u8 (A0 0) 16) - 7)) (
 cg (1+((ae .u8 (ak .quo .u8 (A0 0) 16)) - 7)) ((
 cg ((1+((ae .u8 (ak .quo .u8 (A0 0) 16)) - 7))+x3) ((
 aw (0≤((1+((ae .u8 (ak .quo .u8 (A0 0) 16)) - 7))+x3)) (
 aw (((1+((ae .u8 (ak .quo .u8 (A0 0) 16)) - 7))+x3)<x0) (
 cg (x3+1) ((
 ∃dJ dT:Int,dJ=(x3+1)∧dT=(ae .u64 ((ae .u64 (256*x4))+(ae .u64 (A0 (ag ((1+((ae .u8 (ak .quo .u8 (A0 0) 16)) - 7))+x3))))))∧jg ⟨[],[],[dJ,dT],[],[],[],[]⟩∧mr ⟨[],[],[dJ,dT],[],[],[],[]⟩<mr ⟨[],[],[x3,x4],[],[],[],[]⟩))))))))) (
 cg (1+((ae .u8 (ak .quo .u8 (A0 0) 16)) - 7)) ((
 cg ((1+((ae .u8 (ak .quo .u8 (A0 0) 16)) - 7))+((ak .rem .u8 (A0 0) 16) - 7)) ((
 aw (0≤((1+((ae .u8 (ak .quo .u8 (A0 0) 16)) - 7))+((ak .rem .u8 (A0 0) 16) - 7))) (
 aw (((1+((ae .u8 (ak .quo .u8 (A0 0) 16)) - 7))+((ak .rem .u8 (A0 0) 16) - 7))≤x0) (
 Cl 31 [.agg #[.int .u64 x2,.int .u64 x4]] [] fun x hs _=> ∃(v1:V1) (x5:Int) (A1:Nat→Int),x=v1.v∧hs=[bo v1 x5 A1]∧
 aJ (¬(cd (jx A1 x5)=cd (jx A0 ((1+((ae .u8 (ak .quo .u8 (A0 0) 16)) - 7))+((ak .rem .u8 (A0 0) 16) - 7))))) (
 ao (.tuple #[.agg #[.int .u64 0,.int .u64 0],.int .i64 0]) []) (
 ao (.tuple #[.agg #[.int .u64 x2,.int .u64 x4],.int .i64 ((1+((ae .u8 (ak .quo .u8 (A0 0) 16)) - 7))+((ak .rem .u8 (A0 0) 16) - 7))]) [])))))))))) (
 ∃(dU:Ext→Prop) (gw:Ext→Nat),(∃x1 x2:Int,x1=0∧x2=(ae .u64 (ae .u8 (ak .quo .u8 (A0 0) 16)))∧dU ⟨[],[],[x1,x2],[],[],[],[]⟩)∧
 ∀x1 x2:Int,dU ⟨[],[],[x1,x2],[],[],[],[]⟩→
 aJ (x1<((ae .u8 (ak .quo .u8 (A0 0) 16)) - 7)) (
 cg (1+x1) ((
 aw (0≤(1+x1)) (
 aw ((1+x1)<x0) (
 cg (x1+1) ((
 ∃dr ei:Int,dr=(x1+1)∧ei=(ae .u64 ((ae .u64 (256*x2))+(ae .u64 (A0 (ag (1+x1))))))∧dU ⟨[],[],[dr,ei],[],[],[],[]⟩∧gw ⟨[],[],[dr,ei],[],[],[],[]⟩<gw ⟨[],[],[x1,x2],[],[],[],[]⟩))))))) (
 ∃(jg:Ext→Prop) (mr:Ext→Nat),(∃x3 x4:Int,x3=0∧x4=(ae .u64 (ak .rem .u8 (A0 0) 16))∧jg ⟨[],[],[x3,x4],[],[],[],[]⟩)∧
 ∀x3 x4:Int,jg ⟨[],[],[x3,x4],[],[],[],[]⟩→
 aJ (x3<((ak .rem .u8 (A0 0) 16) - 7)) (
 cg (1+((ae .u8 (ak .quo .u8 (A0 0) 16)) - 7)) ((
 cg ((1+((ae .u8 (ak .quo .u8 (A0 0) 16)) - 7))+x3) ((
 aw (0≤((1+((ae .u8 (ak .quo .u8 (A0 0) 16)) - 7))+x3)) (
 aw (((1+((ae .u8 (ak .quo .u8 (A0 0) 16)) - 7))+x3)<x0) (
 cg (x3+1) ((
 ∃dJ dT:Int,dJ=(x3+1)∧dT=(ae .u64 ((ae .u64 (256*x4))+(ae .u64 (A0 (ag ((1+((ae .u8 (ak .quo .u8 (A0 0) 16)) - 7))+x3))))))∧jg ⟨[],[],[dJ,dT],[],[],[],[]⟩∧mr ⟨[],[],[dJ,dT],[],[],[],[]⟩<mr ⟨[],[],[x3,x4],[],[],[],[]⟩))))))))) (
 cg (1+((ae .u8 (ak .quo .u8 (A0 0) 16)) - 7)) ((
 cg ((1+((ae .u8 (ak .quo .u8 (A0 0) 16)) - 7))+((ak .rem .u8 (A0 0) 16) - 7)) ((
 aw (0≤((1+((ae .u8 (ak .quo .u8 (A0 0) 16)) - 7))+((ak .rem .u8 (A0 0) 16) - 7))) (
 aw (((1+((ae .u8 (ak .quo .u8 (A0 0) 16)) - 7))+((ak .rem .u8 (A0 0) 16) - 7))≤x0) (
 Cl 31 [.agg #[.int .u64 x2,.int .u64 x4]] [] fun x hs _=> ∃(v1:V1) (x5:Int) (A1:Nat→Int),x=v1.v∧hs=[bo v1 x5 A1]∧
 aJ (¬(cd (jx A1 x5)=cd (jx A0 ((1+((ae .u8 (ak .quo .u8 (A0 0) 16)) - 7))+((ak .rem .u8 (A0 0) 16) - 7))))) (
 ao (.tuple #[.agg #[.int .u64 0,.int .u64 0],.int .i64 0]) []) (
 ao (.tuple #[.agg #[.int .u64 x2,.int .u64 x4],.int .i64 ((1+((ae .u8 (ak .quo .u8 (A0 0) 16)) - 7))+((ak .rem .u8 (A0 0) 16) - 7))]) []))))))))))))))))))))) (
 cg (1+((ae .u8 (ak .quo .u8 (A0 0) 16)) - 7)) ((
 aJ (x0<(1+((ae .u8 (ak .quo .u8 (A0 0) 16)) - 7))) (
 ao (.tuple #[.agg #[.int .u64 0,.int .u64 0],.int .i64 0]) []) (
 ∀_:Nat,aJ (0<((ae .u8 (ak .quo .u8 (A0 0) 16)) - 7)) (
 ∃(mb:Ext→Prop) (qp:Ext→Nat),(∃x1 x2:Int,x1=0∧x2=0∧mb ⟨[],[],[x1,x2],[],[],[],[]⟩)∧
 ∀x1 x2:Int,mb ⟨[],[],[x1,x2],[],[],[],[]⟩→
 aJ (x1<((ae .u8 (ak .quo .u8 (A0 0) 16)) - 7)) (
 cg (1+x1) ((
 aw (0≤(1+x1)) (
 aw ((1+x1)<x0) (
 cg (x1+1) ((
 ∃dr ei:Int,dr=(x1+1)∧ei=(ae .u64 ((ae .u64 (256*x2))+(ae .u64 (A0 (ag (1+x1))))))∧mb ⟨[],[],[dr,ei],[],[],[],[]⟩∧qp ⟨[],[],[dr,ei],[],[],[],[]⟩<qp ⟨[],[],[x1,x2],[],[],[],[]⟩))))))) (
 ∃(mc:Ext→Prop) (qq:Ext→Nat),(∃x3 x4:Int,x3=0∧x4=(ae .u64 (ak .rem .u8 (A0 0) 16))∧mc ⟨[],[],[x3,x4],[],[],[],[]⟩)∧
 ∀x3 x4:Int,mc ⟨[],[],[x3,x4],[],[],[],[]⟩→
 aJ (x3<0) (
 cg (1+((ae .u8 (ak .quo .u8 (A0 0) 16)) - 7)) ((
 cg ((1+((ae .u8 (ak .quo .u8 (A0 0) 16)) - 7))+x3) ((
 aw (0≤((1+((ae .u8 (ak .quo .u8 (A0 0) 16)) - 7))+x3)) (
 aw (((1+((ae .u8 (ak .quo .u8 (A0 0) 16)) - 7))+x3)<x0) (
 cg (x3+1) ((
 ∃dJ dT:Int,dJ=(x3+1)∧dT=(ae .u64 ((ae .u64 (256*x4))+(ae .u64 (A0 (ag ((1+((ae .u8 (ak .quo .u8 (A0 0) 16)) - 7))+x3))))))∧mc ⟨[],[],[dJ,dT],[],[],[],[]⟩∧qq ⟨[],[],[dJ,dT],[],[],[],[]⟩<qq ⟨[],[],[x3,x4],[],[],[],[]⟩))))))))) (
 cg (1+((ae .u8 (ak .quo .u8 (A0 0) 16)) - 7)) ((
 aw (0≤(1+((ae .u8 (ak .quo .u8 (A0 0) 16)) - 7))) (
 aw ((1+((ae .u8 (ak .quo .u8 (A0 0) 16)) - 7))≤x0) (
 Cl 31 [.agg #[.int .u64 x2,.int .u64 x4]] [] fun x hs _=> ∃(v1:V1) (x5:Int) (A1:Nat→Int),x=v1.v∧hs=[bo v1 x5 A1]∧
 aJ (¬(cd (jx A1 x5)=cd (jx A0 (1+((ae .u8 (ak .quo .u8 (A0 0) 16)) - 7))))) (
 ao (.tuple #[.agg #[.int .u64 0,.int .u64 0],.int .i64 0]) []) (
 ao (.tuple #[.agg #[.int .u64 x2,.int .u64 x4],.int .i64 (1+((ae .u8 (ak .quo .u8 (A0 0) 16)) - 7))]) [])))))))) (
 ∃(mb:Ext→Prop) (qp:Ext→Nat),(∃x1 x2:Int,x1=0∧x2=(ae .u64 (ae .u8 (ak .quo .u8 (A0 0) 16)))∧mb ⟨[],[],[x1,x2],[],[],[],[]⟩)∧
 ∀x1 x2:Int,mb ⟨[],[],[x1,x2],[],[],[],[]⟩→
 aJ (x1<((ae .u8 (ak .quo .u8 (A0 0) 16)) - 7)) (
 cg (1+x1) ((
 aw (0≤(1+x1)) (
 aw ((1+x1)<x0) (
 cg (x1+1) ((
 ∃dr ei:Int,dr=(x1+1)∧ei=(ae .u64 ((ae .u64 (256*x2))+(ae .u64 (A0 (ag (1+x1))))))∧mb ⟨[],[],[dr,ei],[],[],[],[]⟩∧qp ⟨[],[],[dr,ei],[],[],[],[]⟩<qp ⟨[],[],[x1,x2],[],[],[],[]⟩))))))) (
 ∃(mc:Ext→Prop) (qq:Ext→Nat),(∃x3 x4:Int,x3=0∧x4=(ae .u64 (ak .rem .u8 (A0 0) 16))∧mc ⟨[],[],[x3,x4],[],[],[],[]⟩)∧
 ∀x3 x4:Int,mc ⟨[],[],[x3,x4],[],[],[],[]⟩→
 aJ (x3<0) (
 cg (1+((ae .u8 (ak .quo .u8 (A0 0) 16)) - 7)) ((
 cg ((1+((ae .u8 (ak .quo .u8 (A0 0) 16)) - 7))+x3) ((
 aw (0≤((1+((ae .u8 (ak .quo .u8 (A0 0) 16)) - 7))+x3)) (
 aw (((1+((ae .u8 (ak .quo .u8 (A0 0) 16)) - 7))+x3)<x0) (
 cg (x3+1) ((
 ∃dJ dT:Int,dJ=(x3+1)∧dT=(ae .u64 ((ae .u64 (256*x4))+(ae .u64 (A0 (ag ((1+((ae .u8 (ak .quo .u8 (A0 0) 16)) - 7))+x3))))))∧mc ⟨[],[],[dJ,dT],[],[],[],[]⟩∧qq ⟨[],[],[dJ,dT],[],[],[],[]⟩<qq ⟨[],[],[x3,x4],[],[],[],[]⟩))))))))) (
 cg (1+((ae .u8 (ak .quo .u8 (A0 0) 16)) - 7)) ((
 aw (0≤(1+((ae .u8 (ak .quo .u8 (A0 0) 16)) - 7))) (
 aw ((1+((ae .u8 (ak .quo .u8 (A0 0) 16)) - 7))≤x0) (
 Cl 31 [.agg #[.int .u64 x2,.int .u64 x4]] [] fun x hs _=> ∃(v1:V1) (x5:Int) (A1:Nat→Int),x=v1.v∧hs=[bo v1 x5 A1]∧
 aJ (¬(cd (jx A1 x5)=cd (jx A0 (1+((ae .u8 (ak .quo .u8 (A0 0) 16)) - 7))))) (
 ao (.tuple #[.agg #[.int .u64 0,.int .u64 0],.int .i64 0]) []) (
 ao (.tuple #[.agg #[.int .u64 x2,.int .u64 x4],.int .i64 (1+((ae .u8 (ak .quo .u8 (A0 0) 16)) - 7))]) []))))))))))))))))) (
 aJ (8≤(ak .rem .u8 (A0 0) 16)) (
 cg (ak .rem .u8 (A0 0) 16) ((
 cg ((ak .rem .u8 (A0 0) 16) - 7) ((
 cg (1+((ak .rem .u8 (A0 0) 16) - 7)) ((
 aJ (x0<(1+((ak .rem .u8 (A0 0) 16) - 7))) (
 ao (.tuple #[.agg #[.int .u64 0,.int .u64 0],.int .i64 0]) []) (
 ∀_:Nat,aJ (0<((ak .rem .u8 (A0 0) 16) - 7)) (
 ∃(mb:Ext→Prop) (qp:Ext→Nat),(∃x1 x2:Int,x1=0∧x2=(ae .u64 (ae .u8 (ak .quo .u8 (A0 0) 16)))∧mb ⟨[],[],[x1,x2],[],[],[],[]⟩)∧
 ∀x1 x2:Int,mb ⟨[],[],[x1,x2],[],[],[],[]⟩→
 aJ (x1<0) (
 cg (1+x1) ((
 aw (0≤(1+x1)) (
 aw ((1+x1)<x0) (
 cg (x1+1) ((
 ∃dr ei:Int,dr=(x1+1)∧ei=(ae .u64 ((ae .u64 (256*x2))+(ae .u64 (A0 (ag (1+x1))))))∧mb ⟨[],[],[dr,ei],[],[],[],[]⟩∧qp ⟨[],[],[dr,ei],[],[],[],[]⟩<qp ⟨[],[],[x1,x2],[],[],[],[]⟩))))))) (
 ∃(mc:Ext→Prop) (qq:Ext→Nat),(∃x3 x4:Int,x3=0∧x4=0∧mc ⟨[],[],[x3,x4],[],[],[],[]⟩)∧
 ∀x3 x4:Int,mc ⟨[],[],[x3,x4],[],[],[],[]⟩→
 aJ (x3<((ak .rem .u8 (A0 0) 16) - 7)) (
 cg (1+x3) ((
 aw (0≤(1+x3)) (
 aw ((1+x3)<x0) (
 cg (x3+1) ((
 ∃dJ dT:Int,dJ=(x3+1)∧dT=(ae .u64 ((ae .u64 (256*x4))+(ae .u64 (A0 (ag (1+x3))))))∧mc ⟨[],[],[dJ,dT],[],[],[],[]⟩∧qq ⟨[],[],[dJ,dT],[],[],[],[]⟩<qq ⟨[],[],[x3,x4],[],[],[],[]⟩))))))) (
 cg (1+((ak .rem .u8 (A0 0) 16) - 7)) ((
 aw (0≤(1+((ak .rem .u8 (A0 0) 16) - 7))) (
 aw ((1+((ak .rem .u8 (A0 0) 16) - 7))≤x0) (
 Cl 31 [.agg #[.int .u64 x2,.int .u64 x4]] [] fun x hs _=> ∃(v1:V1) (x5:Int) (A1:Nat→Int),x=v1.v∧hs=[bo v1 x5 A1]∧
 aJ (¬(cd (jx A1 x5)=cd (jx A0 (1+((ak .rem .u8 (A0 0) 16) - 7))))) (
 ao (.tuple #[.agg #[.int .u64 0,.int .u64 0],.int .i64 0]) []) (
 ao (.tuple #[.agg #[.int .u64 x2,.int .u64 x4],.int .i64 (1+((ak .rem .u8 (A0 0) 16) - 7))]) [])))))))) (
 ∃(mb:Ext→Prop) (qp:Ext→Nat),(∃x1 x2:Int,x1=0∧x2=(ae .u64 (ae .u8 (ak .quo .u8 (A0 0) 16)))∧mb ⟨[],[],[x1,x2],[],[],[],[]⟩)∧
 ∀x1 x2:Int,mb ⟨[],[],[x1,x2],[],[],[],[]⟩→
 aJ (x1<0) (
 cg (1+x1) ((
 aw (0≤(1+x1)) (
 aw ((1+x1)<x0) (
 cg (x1+1) ((
 ∃dr ei:Int,dr=(x1+1)∧ei=(ae .u64 ((ae .u64 (256*x2))+(ae .u64 (A0 (ag (1+x1))))))∧mb ⟨[],[],[dr,ei],[],[],[],[]⟩∧qp ⟨[],[],[dr,ei],[],[],[],[]⟩<qp ⟨[],[],[x1,x2],[],[],[],[]⟩))))))) (
 ∃(mc:Ext→Prop) (qq:Ext→Nat),(∃x3 x4:Int,x3=0∧x4=(ae .u64 (ak .rem .u8 (A0 0) 16))∧mc ⟨[],[],[x3,x4],[],[],[],[]⟩)∧
 ∀x3 x4:Int,mc ⟨[],[],[x3,x4],[],[],[],[]⟩→
 aJ (x3<((ak .rem .u8 (A0 0) 16) - 7)) (
 cg (1+x3) ((
 aw (0≤(1+x3)) (
 aw ((1+x3)<x0) (
 cg (x3+1) ((
 ∃dJ dT:Int,dJ=(x3+1)∧dT=(ae .u64 ((ae .u64 (256*x4))+(ae .u64 (A0 (ag (1+x3))))))∧mc ⟨[],[],[dJ,dT],[],[],[],[]⟩∧qq ⟨[],[],[dJ,dT],[],[],[],[]⟩<qq ⟨[],[],[x3,x4],[],[],[],[]⟩))))))) (
 cg (1+((ak .rem .u8 (A0 0) 16) - 7)) ((
 aw (0≤(1+((ak .rem .u8 (A0 0) 16) - 7))) (
 aw ((1+((ak .rem .u8 (A0 0) 16) - 7))≤x0) (
 Cl 31 [.agg #[.int .u64 x2,.int .u64 x4]] [] fun x hs _=> ∃(v1:V1) (x5:Int) (A1:Nat→Int),x=v1.v∧hs=[bo v1 x5 A1]∧
 aJ (¬(cd (jx A1 x5)=cd (jx A0 (1+((ak .rem .u8 (A0 0) 16) - 7))))) (
 ao (.tuple #[.agg #[.int .u64 0,.int .u64 0],.int .i64 0]) []) (
 ao (.tuple #[.agg #[.int .u64 x2,.int .u64 x4],.int .i64 (1+((ak .rem .u8 (A0 0) 16) - 7))]) [])))))))))))))))) (
 aJ (x0<1) (
 ao (.tuple #[.agg #[.int .u64 0,.int .u64 0],.int .i64 0]) []) (
 ∀_:Nat,∃(lG:Ext→Prop) (ph:Ext→Nat),(∃x1 x2:Int,x1=0∧x2=(ae .u64 (ae .u8 (ak .quo .u8 (A0 0) 16)))∧lG ⟨[],[],[x1,x2],[],[],[],[]⟩)∧
 ∀x1 x2:Int,lG ⟨[],[],[x1,x2],[],[],[],[]⟩→
 aJ (x1<0) (
 cg (1+x1) ((
 aw (0≤(1+x1)) (
 aw ((1+x1)<x0) (
 cg (x1+1) ((
 ∃dr ei:Int,dr=(x1+1)∧ei=(ae .u64 ((ae .u64 (256*x2))+(ae .u64 (A0 (ag (1+x1))))))∧lG ⟨[],[],[dr,ei],[],[],[],[]⟩∧ph ⟨[],[],[dr,ei],[],[],[],[]⟩<ph ⟨[],[],[x1,x2],[],[],[],[]⟩))))))) (
 ∃(dU:Ext→Prop) (gw:Ext→Nat),(∃x3 x4:Int,x3=0∧x4=(ae .u64 (ak .rem .u8 (A0 0) 16))∧dU ⟨[],[],[x3,x4],[],[],[],[]⟩)∧
 ∀x3 x4:Int,dU ⟨[],[],[x3,x4],[],[],[],[]⟩→
 aJ (x3<0) (
 cg (1+x3) ((
 aw (0≤(1+x3)) (
 aw ((1+x3)<x0) (
 cg (x3+1) ((
 ∃dJ dT:Int,dJ=(x3+1)∧dT=(ae .u64 ((ae .u64 (256*x4))+(ae .u64 (A0 (ag (1+x3))))))∧dU ⟨[],[],[dJ,dT],[],[],[],[]⟩∧gw ⟨[],[],[dJ,dT],[],[],[],[]⟩<gw ⟨[],[],[x3,x4],[],[],[],[]⟩))))))) (
 aw (1≤x0) (
 Cl 31 [.agg #[.int .u64 x2,.int .u64 x4]] [] fun x hs _=> ∃(v1:V1) (x5:Int) (A1:Nat→Int),x=v1.v∧hs=[bo v1 x5 A1]∧
 aJ (¬(cd (jx A1 x5)=cd (jx A0 1))) (
 ao (.tuple #[.agg #[.int .u64 0,.int .u64 0],.int .i64 0]) []) (
 ao (.tuple #[.agg #[.int .u64 x2,.int .u64 x4],.int .i64 1]) []))))))))))
theorem PM(ao:PT)(x0:Int)(A0:Nat→Int)(v0:V1)(h:Gn ao x0 A0 v0):gq 24 [.vv 0] [.bK false 0 5 1 (.var 0) [⟨.int .u8,1,.aN 0⟩]] ⟨[x0],[A0],[],[],[v0],[],[],[]⟩ ao:=
 Uh (C:=ZH.cx) _ _ ⟨0,1,1,1,0,0,0⟩ _ Tryz.func24 (by kernel_rfl) h
end Go.RX.ZH

namespace Go.RX.Fl
open Go Go.RX Go.Proofs Go.RX.Sh Go.RX.Fg Go.RX.Fi Go.RX.Fj Go.RX.Fk Go.Hd Go.Gh Go.Gc Go.Ae Go.RX.Fe Go.Se
theorem ofNat_inj{a b:Nat}(ha:a<256)(hb:b<256)(h:UInt8.ofNat a=UInt8.ofNat b):a=b:=by
 have:=congrArg UInt8.toNat h;simp only [UInt8.toNat_ofNat']at this;omega
theorem SW{n m:Nat}{F G:Nat→Int}{A B:Nat→Nat}(hF: ∀j,j<n→F j=(A j:Nat))(hG: ∀j,j<m→G j=(B j:Nat))(hA: ∀j,A j<256)(hB: ∀j,B j<256):
  cd (jx F (n:Int))=cd (jx G (m:Int))↔n=m∧∀j,j<n→A j=B j:=by
 rw [Bi,Bi,aiX,aiX];constructor
 ·intro h;have hl:=congrArg List.length h;simp only [List.length_map,List.length_range]at hl;subst hl;refine⟨rfl,fun j hj=>?_⟩;have:=congrArg (fun l=>l[j]?) h;simp only [List.getElem?_map,List.getElem?_range hj,ajI,aiP,hF j hj,hG j hj,aiX]at this;exact ofNat_inj (hA j) (hB j) this
 ·rintro ⟨rfl,h⟩;refine ajq fun j hj=>?_
  have hj:=ai8.1 hj;rw [hF j hj,hG j hj,h j hj]
theorem ZI: ∀t:Fin 256,ae .u8 (ak .quo .u8 ((t.val:Nat):Int) 16)=((t.val/16:Nat):Int):=by decide+kernel
theorem ZJ(t:Nat):ak .rem .u8 ((t:Nat):Int) 16=((t%16:Nat):Int):=rfl
theorem step{w t:Nat}(hw:w<2^56)(ht:t<256):ae .u64 (ae .u64 (256*(w:Int))+ae .u64 (t:Int))=((w*256+t:Nat):Int):=by
 rw [show(256:Int)*(w:Int)=((w*256:Nat):Int) by omega,qe (by omega),qe (by omega),show((w*256:Nat):Int)+(t:Int)=((w*256+t:Nat):Int) by omega,qe (by omega)]
def BN(n:Nat)(T:Nat→Nat)(r:Value):Prop:=
 ∃a b c:Nat,r= .tuple #[.agg #[.int .u64 (a:Int),.int .u64 (b:Int)],.int .i64 (c:Int)]∧((qk n T∧a=bV T∧b=aZ T∧c=hlen T)∨(¬qk n T∧c=0))
theorem tZ{n:Nat}{T:Nat→Nat}(h: ¬qk n T):BN n T (.tuple #[.agg #[.int .u64 0,.int .u64 0],.int .i64 0]):=⟨0,0,0,rfl,.inr ⟨h,rfl⟩⟩
set_option maxHeartbeats 4000000 in
theorem oO(v0:V1)(n:Nat)(T:Nat→Nat)(hT: ∀j,T j<256):ax aiT 24 [v0.v] [aq false v0 n T] fun r hs=>BN n T r∧hs=[]:=by
 refine ax.post (p:=fun r _=>BN n T r) ?_ fun v hs h=>⟨[],bL.sub (List.nil_sublist _),h,rfl⟩
 refine ZH.PM _ (n:Int) (fun j=>(T j:Nat)) v0 ?_;unfold ZH.Gn;dsimp only;have EX:=hT 0;have hq:=ZI ⟨T 0,EX⟩;dsimp only at hq;rw [hq,ZJ];obtain⟨a,ha⟩: ∃a,a=T 0/16:=⟨_,rfl⟩;obtain⟨c,hc⟩: ∃c,c=T 0%16:=⟨_,rfl⟩;rw [←ha,←hc];have OX:a<16:=by omega
 have VD:c<16:=by omega
 have wa:ae .u64 (a:Int)=(a:Int):=qe (by omega);have wc:ae .u64 (c:Int)=(c:Int):=qe (by omega);rw [wa,wc];have DT:=Pd hT;have dz:=CW hT;have hwd: ∀(o i:Nat),i≤7→ni (fun j=>T (o+j)) i<2^56:=fun o i hi=>ai1 (qb _ (fun j=>hT _) i) (Nat.le_trans (Nat.pow_le_pow_right (by decide) hi) (by decide))
 have fin: ∀z:Int,z=((hlen T:Nat):Int)→hlen T≤n→aJ (¬(cd (jx (fun j=>((dM (bV T) (aZ T) j:Nat):Int)) ((bS (bV T) (aZ T):Nat):Int))=cd (jx (fun j=>((T j:Nat):Int)) z))) (BN n T (.tuple #[.agg #[.int .u64 0,.int .u64 0],.int .i64 0])) (BN n T (.tuple #[.agg #[.int .u64 (bV T:Nat),.int .u64 (aZ T:Nat)],.int .i64 z])):=by
  intro z hz hle;subst hz;have tX:=SW (n:=bS (bV T) (aZ T)) (m:=hlen T) (F:=fun j=>((dM (bV T) (aZ T) j:Nat):Int)) (G:=fun j=>((T j:Nat):Int)) (A:=dM (bV T) (aZ T)) (B:=T) (fun _ _=>rfl) (fun _ _=>rfl) (tT _ _) hT;have hpb:=Pe hT;refine⟨fun h=>tZ fun hh=>h (tX.2 (hpb.2 ⟨hh.2.1,hh.2.2⟩)),fun h=>?_⟩;have:=hpb.1 (tX.1 (ai4.1 h));exact⟨_,_,_,rfl,.inl ⟨⟨hle,this.1,this.2⟩,rfl,rfl,rfl⟩⟩
 intro b0;refine⟨by omega,fun _=>⟨fun h0=>tZ fun h=>by have:=h.1;omega,fun h0=>⟨by omega,fun _=>⟨fun acY=>?_,fun acY=>?_⟩⟩⟩⟩
 ·have a8:8≤a:=by omega
  have k0:nk T=a - 7:=by unfold nk;rw [if_neg (by omega),ha]
  have e1:bV T=ni (fun j=>T (1+j)) (a - 7):=by
   unfold bV;rw [if_neg (by omega),k0]
  repeat (refine⟨by omega,fun _=>?_⟩)
  refine⟨fun h8=>?_,fun h8=>?_⟩
  ·have c8:8≤c:=by omega
   have c0:nc T=c - 7:=by unfold nc;rw [if_neg (by omega),hc]
   have e2:aZ T=ni (fun j=>T (1+(a - 7)+j)) (c - 7):=by
    unfold aZ;rw [if_neg (by omega),c0,k0]
   repeat (refine⟨by omega,fun _=>?_⟩)
   refine⟨fun hs=>tZ fun h=>by have:=h.1;omega,fun hs b1=>?_⟩;refine⟨fun hk=>⟨fun Qa=>?_,fun Qa=>by omega⟩,fun hk=>by omega⟩;refine⟨fun e=> ∃i:Nat,i≤a - 7∧e.i=[(i:Int),((ni (fun j=>T (1+j)) i:Nat):Int)],fun e=>((16:Int) - e.i.getD 0 0).toNat,⟨_,_,rfl,rfl,0,by omega,rfl⟩,?_⟩;rintro y1 y2 ⟨i,hi,hx⟩;simp only [ai5,and_true]at hx;obtain⟨rfl,rfl⟩:=hx;refine⟨fun bX=>?_,fun jI=>?_⟩
   ·repeat (refine⟨by omega,fun _=>?_⟩)
    refine⟨_,_,rfl,rfl,⟨i+1,by omega,?_⟩,?_⟩
    ·rw [show ag (1+(i:Int))=1+i by omega,step (hwd _ i (by omega)) (hT _)];rfl
    ·simp only [ah];omega
   have wM:i=a - 7:=by omega
   subst wM;refine⟨fun e=> ∃i:Nat,i≤c - 7∧e.i=[(i:Int),((ni (fun j=>T (1+(a - 7)+j)) i:Nat):Int)],fun e=>((16:Int) - e.i.getD 0 0).toNat,⟨_,_,rfl,rfl,0,by omega,rfl⟩,?_⟩;rintro z1 z2 ⟨k,hk,hx⟩;simp only [ai5,and_true]at hx;obtain⟨rfl,rfl⟩:=hx;refine⟨fun bX=>?_,fun jI=>?_⟩
   ·repeat (refine⟨by omega,fun _=>?_⟩)
    refine⟨_,_,rfl,rfl,⟨k+1,by omega,?_⟩,?_⟩
    ·rw [show ag ((1:Int)+((a:Int) - 7)+(k:Int))=1+(a - 7)+k by omega,step (hwd _ k (by omega)) (hT _)];rfl
    ·simp only [ah];omega
   have yz:k=c - 7:=by omega
   subst yz;rw [←e1,←e2]
   repeat (refine⟨by omega,fun _=>?_⟩)
   refine⟨_,j6 (bV T) (aZ T) DT dz,?_⟩;rintro x hs ⟨v1,rfl,rfl⟩;refine⟨v1,(bS (bV T) (aZ T):Nat),fun j=>(dM (bV T) (aZ T) j:Nat),rfl,rfl,?_⟩;exact fin _ (by unfold hlen;omega) (by unfold hlen;omega)
  ·have c8:c<8:=by omega
   have c0:nc T=0:=by unfold nc;rw [if_pos (by omega)]
   have e2:aZ T=c:=by unfold aZ;rw [if_pos (by omega),hc]
   repeat (refine⟨by omega,fun _=>?_⟩)
   refine⟨fun hs=>tZ fun h=>by have:=h.1;omega,fun hs b1=>?_⟩;refine⟨fun hk=>?_,fun hk=>by omega⟩;refine⟨fun e=> ∃i:Nat,i≤a - 7∧e.i=[(i:Int),((ni (fun j=>T (1+j)) i:Nat):Int)],fun e=>((16:Int) - e.i.getD 0 0).toNat,⟨_,_,rfl,rfl,0,by omega,rfl⟩,?_⟩;rintro y1 y2 ⟨i,hi,hx⟩;simp only [ai5,and_true]at hx;obtain⟨rfl,rfl⟩:=hx;refine⟨fun bX=>?_,fun jI=>?_⟩
   ·repeat (refine⟨by omega,fun _=>?_⟩)
    refine⟨_,_,rfl,rfl,⟨i+1,by omega,?_⟩,?_⟩
    ·rw [show ag (1+(i:Int))=1+i by omega,step (hwd _ i (by omega)) (hT _)];rfl
    ·simp only [ah];omega
   have wM:i=a - 7:=by omega
   subst wM;refine⟨fun e=>e.i=[0,(c:Int)],fun _=>0,⟨_,_,rfl,rfl,rfl⟩,?_⟩;rintro z1 z2 hx;simp only [ai5,and_true]at hx;obtain⟨rfl,rfl⟩:=hx;refine⟨fun bX=>absurd bX (by omega),fun jI=>?_⟩;rw [←e1,←e2]
   repeat (refine⟨by omega,fun _=>?_⟩)
   refine⟨_,j6 (bV T) (aZ T) DT dz,?_⟩;rintro x hs ⟨v1,rfl,rfl⟩;refine⟨v1,(bS (bV T) (aZ T):Nat),fun j=>(dM (bV T) (aZ T) j:Nat),rfl,rfl,?_⟩;exact fin _ (by unfold hlen;omega) (by unfold hlen;omega)
 ·have a8:a<8:=by omega
  have k0:nk T=0:=by unfold nk;rw [if_pos (by omega)]
  have e1:bV T=a:=by unfold bV;rw [if_pos (by omega),ha]
  repeat (refine⟨by omega,fun _=>?_⟩)
  refine⟨fun h8=>?_,fun h8=>?_⟩
  ·have c8:8≤c:=by omega
   have c0:nc T=c - 7:=by unfold nc;rw [if_neg (by omega),hc]
   have e2:aZ T=ni (fun j=>T (1+j)) (c - 7):=by
    unfold aZ;rw [if_neg (by omega),c0,k0]
   repeat (refine⟨by omega,fun _=>?_⟩)
   refine⟨fun hs=>tZ fun h=>by have:=h.1;omega,fun hs b1=>?_⟩;refine⟨fun hk=>?_,fun hk=>by omega⟩;refine⟨fun e=>e.i=[0,(a:Int)],fun _=>0,⟨_,_,rfl,rfl,rfl⟩,?_⟩;rintro y1 y2 hx;simp only [ai5,and_true]at hx;obtain⟨rfl,rfl⟩:=hx;refine⟨fun bX=>absurd bX (by omega),fun jI=>?_⟩;refine⟨fun e=> ∃i:Nat,i≤c - 7∧e.i=[(i:Int),((ni (fun j=>T (1+j)) i:Nat):Int)],fun e=>((16:Int) - e.i.getD 0 0).toNat,⟨_,_,rfl,rfl,0,by omega,rfl⟩,?_⟩;rintro z1 z2 ⟨k,hk,hx⟩;simp only [ai5,and_true]at hx;obtain⟨rfl,rfl⟩:=hx;refine⟨fun bX=>?_,fun jI=>?_⟩
   ·repeat (refine⟨by omega,fun _=>?_⟩)
    refine⟨_,_,rfl,rfl,⟨k+1,by omega,?_⟩,?_⟩
    ·rw [show ag (1+(k:Int))=1+k by omega,step (hwd _ k (by omega)) (hT _)];rfl
    ·simp only [ah];omega
   have yz:k=c - 7:=by omega
   subst yz;rw [←e1,←e2]
   repeat (refine⟨by omega,fun _=>?_⟩)
   refine⟨_,j6 (bV T) (aZ T) DT dz,?_⟩;rintro x hs ⟨v1,rfl,rfl⟩;refine⟨v1,(bS (bV T) (aZ T):Nat),fun j=>(dM (bV T) (aZ T) j:Nat),rfl,rfl,?_⟩;exact fin _ (by unfold hlen;omega) (by unfold hlen;omega)
  ·have c8:c<8:=by omega
   have c0:nc T=0:=by unfold nc;rw [if_pos (by omega)]
   have e2:aZ T=c:=by unfold aZ;rw [if_pos (by omega),hc]
   refine⟨fun hs=>by omega,fun hs b1=>?_⟩;refine⟨fun e=>e.i=[0,(a:Int)],fun _=>0,⟨_,_,rfl,rfl,rfl⟩,?_⟩;rintro y1 y2 hx;simp only [ai5,and_true]at hx;obtain⟨rfl,rfl⟩:=hx;refine⟨fun bX=>absurd bX (by omega),fun jI=>?_⟩;refine⟨fun e=>e.i=[0,(c:Int)],fun _=>0,⟨_,_,rfl,rfl,rfl⟩,?_⟩;rintro z1 z2 hx;simp only [ai5,and_true]at hx;obtain⟨rfl,rfl⟩:=hx;refine⟨fun bX=>absurd bX (by omega),fun jI=>?_⟩;rw [←e1,←e2]
   repeat (refine⟨by omega,fun _=>?_⟩)
   refine⟨_,j6 (bV T) (aZ T) DT dz,?_⟩;rintro x hs ⟨v1,rfl,rfl⟩;refine⟨v1,(bS (bV T) (aZ T):Nat),fun j=>(dM (bV T) (aZ T) j:Nat),rfl,rfl,?_⟩;exact fin _ (by unfold hlen;omega) (by unfold hlen;omega)
theorem sh{B:List HP}{x:Value}(hx:x.oneCell'=true)(n:Nat)(T:Nat→Nat)(hT: ∀j,T j<256)(h:ar B (aH x n T)):ax aiT 24 [x] B fun r hs=>BN n T r∧hs=B:=
 kF (oO ⟨x,hx⟩ n T hT) (iB h)
end Go.RX.Fl
