/- SHA-256. -/
import Derived.Test.YtphemenngjkfbaaM46
open Go.IntKind renaming i64 → adL, u8 → adG, wrap → ae
open Go.Proofs.Try renaming prog → adY
open Int renaming toNat → ag
open List renaming all_eq_true → adI, getD_cons_succ → aeg, getD_cons_zero → ah, mem_range → adU, range → aec
open Nat renaming lt_of_lt_of_le → adT
namespace Go.RX.Sh
open Go.RX Go.Proofs
theorem TD(n:Nat):(256:Int)*(n:Int)=((n*256:Nat):Int):=by omega
theorem TE{a b c d:Nat}(ha:a<256)(hb:b<256)(hc:c<256)(hd:d<256):
  ae .u64 ((ae .u64 (256*(ae .u64 ((ae .u64 (256*(ae .u64 ((ae .u64 (256*(ae .u64 (ae .u64 (a:Int)))))+(ae .u64 (b:Int))))))+(ae .u64 (c:Int))))))+(ae .u64 (d:Int)))=((((a*256+b)*256+c)*256+d:Nat):Int):=by
 rw [wrap64 (n:=a) (by omega),wrap64 (n:=a) (by omega),TD a,wrap64 (n:=a*256) (by omega),wrap64 (n:=b) (by omega),mZ (by omega),TD,wrap64 (n:=(a*256+b)*256) (by omega),wrap64 (n:=c) (by omega),mZ (by omega),TD,wrap64 (n:=((a*256+b)*256+c)*256) (by omega),wrap64 (n:=d) (by omega),mZ (by omega)]
theorem VY{a b c d:Nat}(ha:a<2^32)(hb:b<2^32)(hc:c<2^32)(hd:d<2^32):
  ax .rem .u64 (ae .u64 ((ae .u64 ((ae .u64 ((a:Int)+(b:Int)))+(c:Int)))+(d:Int))) 4294967296=(((a+b+c+d)%2^32:Nat):Int):=by
 rw [mZ (by omega),mZ (by omega),mZ (by omega),Bu]
theorem wo{a b:Nat}(ha:a<2^32)(hb:b<2^32):ax .rem .u64 (ae .u64 ((a:Int)+(b:Int))) 4294967296=(((a+b)%2^32:Nat):Int):=by
 rw [mZ (by omega),Bu]
theorem TF(a:Nat):ax .rem .u64 (a:Int) 256=((a%256:Nat):Int):=Cr a 256
theorem I4{w n:Nat}(hw:w<2^32):ae .u8 (ax .rem .u64 (ae .u64 (ax .quo .u64 (w:Int) ((2^n:Nat):Int))) 256)=((w/2^n%256:Nat):Int):=by
 rw [I2 hw,TF,wrap_u8,Nat.mod_eq_of_lt (adT (Nat.mod_lt _ (by decide)) (by decide))]
theorem o24{w:Nat}(hw:w<2^32):ae .u8 (ax .rem .u64 (ae .u64 (ax .quo .u64 (w:Int) 16777216)) 256)=((w/2^24%256:Nat):Int):=I4 (n:=24) hw
theorem o16{w:Nat}(hw:w<2^32):ae .u8 (ax .rem .u64 (ae .u64 (ax .quo .u64 (w:Int) 65536)) 256)=((w/2^16%256:Nat):Int):=I4 (n:=16) hw
theorem o8{w:Nat}(hw:w<2^32):ae .u8 (ax .rem .u64 (ae .u64 (ax .quo .u64 (w:Int) 256)) 256)=((w/2^8%256:Nat):Int):=I4 (n:=8) hw
theorem o0{w:Nat}(hw:w<2^32):ae .u8 (ax .rem .u64 (ae .u64 (ax .quo .u64 (w:Int) 1)) 256)=((w/2^0%256:Nat):Int):=I4 (n:=0) hw
theorem ZD{t:Nat}(ht:t≤64):ae .i64 (ax .quo .i64 ((t:Int)*32) 8)=((4*t:Nat):Int):=by
 have h1:ax .quo .i64 ((t:Int)*32) 8=((t*32/8:Nat):Int):=by
  show Int.tdiv ((t:Int)*32) 8=_;rw [show(t:Int)*32=((t*32:Nat):Int) by omega];rfl
 rw [h1,show t*32/8=4*t by omega];simp [ae,IntKind.signed,IntKind.bits];omega
def HB(M:Nat→Nat):Nat→Nat→Nat
 | 0=>H0
 | q+1=>comp K0 (HB M q) (fun i=>M (64*q+i))
theorem TG(M:Nat→Nat): ∀q j,j<8→HB M q j<2^32
 | 0,j,hj=>I0 j hj
 | _+1,j,_=>IV j
theorem Ow(M:Nat→Nat):sN M=bytesOf (HB M 2):=by
 unfold sN;have h1:(fun i=>M (64*0+i))=M:=funext fun i=>congrArg M (by omega)
 have h2:HB M 2=comp K0 (comp K0 H0 (fun i=>M (64*0+i))) (fun i=>M (64*1+i)):=rfl;rw [h2,h1]
theorem HC(v0:V1)(A0:Nat→Int)(I O N:Nat→Nat)(d0 d1 d2 d3:Nat)(hM: ∀j,msg I O N d0 d1 d2 d3 j<256)(hA: ∀j,j<96→A0 j=((msg I O N d0 d1 d2 d3 j:Nat):Int)):
  aq adY 113 [v0.v,.int .i64 32] [aB true 5 1 v0.v 96 (aH 96 [au .u8 1 A0])]
   (fun r hs=> ∃v:V1,∃A:Nat→Int,r=v.v∧hs=[aB true 5 1 v0.v 96 (aH 96 [au .u8 1 A0]),aB true 5 1 v.v 32 (aH 32 [au .u8 1 A])]∧∀j,j<32→A j=((sN (msg I O N d0 d1 d2 d3) j:Nat):Int)):=by
 refine aq.post (p:=fun r hs=> ∃v:V1,∃A:Nat→Int,r=v.v∧hs[0]? =some (aB true 5 1 v0.v 96 (aH 96 [au .u8 1 A0]))∧hs[4]? =some (aB true 5 1 v.v 32 (aH 32 [au .u8 1 A]))∧∀j,j<32→A j=((sN (msg I O N d0 d1 d2 d3) j:Nat):Int)) ?_ ?_;rotate_left
 ·rintro r hs ⟨v,A,rfl,h0,h4,hj⟩;refine⟨_,aD.idx [0,4] (by decide) ?_,v,A,rfl,rfl,hj⟩;intro m u hu
  match m,hu with
  | 0,hu=>cases hu;exact⟨0,rfl,h0⟩
  | 1,hu=>cases hu;exact⟨4,rfl,h4⟩
  | m+2,hu=>simp at hu
 refine aq.eA (C:=cx) (aQ:={v:=1,a:=1}) (ρ:={av:=[A0],vv:=[v0]}) pA gw pB Try.func113 (by constructor<;>rfl)
  (args:=([Go.RX.SV.vv 0,Go.RX.SV.int (adL) (Go.RX.E.lit 32)])) (hp:=([Go.RX.Ck.cc true 0 5 1 (Go.RX.E.lit 96) [{ck:=Go.RX.CK.int (adG),w:=1,a:=Go.RX.E.aw 0}]])) ?_
 rw [show cC cx 113 ([Go.RX.SV.vv 0,Go.RX.SV.int (adL) (Go.RX.E.lit 32)]) ([Go.RX.Ck.cc true 0 5 1 (Go.RX.E.lit 96) [{ck:=Go.RX.CK.int (adG),w:=1,a:=Go.RX.E.aw 0}]]) {v:=1,a:=1} Try.f113=CC from Ox,QT];unfold I5;intro b0;refine⟨_,CA,?_⟩;rintro r hs ⟨v1,A1,rfl,rfl,hC⟩;refine⟨v1,A1,rfl,rfl,?_⟩;refine⟨_,aZ 32 rfl rfl (by decide),?_⟩;rintro r hs ⟨rfl,rfl⟩;refine⟨rfl,rfl,?_⟩;refine⟨_,CB v0 A0 I O N d0 d1 d2 d3 hA,?_⟩;rintro r hs ⟨v2,A2,rfl,rfl,hP⟩;refine⟨v2,A2,rfl,rfl,?_⟩;generalize msg I O N d0 d1 d2 d3=M at*;refine⟨fun e=> ∃q:Nat,q≤2∧e.i=eight (HB M q) (64*q),fun e=>(128 - e.i.getD 8 0).toNat,⟨_,_,_,_,_,_,_,_,_,rfl,rfl,rfl,rfl,rfl,rfl,rfl,rfl,rfl,0,by omega,?_⟩,?_⟩
 ·show _=eight H0 0;decide+kernel
 rintro x0 x1 x2 x3 x4 x5 x6 x7 x8 ⟨q,hq,hx⟩;simp only [eight,List.cons.injEq,and_true]at hx;obtain⟨rfl,rfl,rfl,rfl,rfl,rfl,rfl,rfl,rfl⟩:=hx;have hH:=TG M q;refine⟨fun cK=>?_,fun wG=>?_⟩
 ·have hB: ∀j,j<64→(fun i=>M (64*q+i)) j<256:=fun j _=>hM _
  obtain⟨B,ZE⟩: ∃B:Nat→Nat,B=fun i=>M (64*q+i):=⟨_,rfl⟩
  rw [←ZE]at hB;have Xz: ∀j,j<64→A2 (64*q+j)=((B j:Nat):Int):=fun j hj=>by rw [hP _ (by omega),ZE]
  refine⟨fun e=> ∃t:Nat,t≤16∧e.i=[(t:Int)]∧∀j,j<t→e.a.getD 0 (fun _=>0) j=((word B j:Nat):Int),fun e=>(16 - e.i.getD 0 0).toNat,⟨_,0,fun _=>0,rfl,rfl,rfl,rfl,fun _ _=>rfl,0,by omega,rfl,fun j hj=>absurd hj (by omega)⟩,?_⟩;rintro v4 x9 A3 ⟨t,ht,hx,h3⟩;simp only [List.cons.injEq,and_true]at hx;subst hx;simp only [ah]at h3;rw [ZD (by omega)];refine⟨fun cK=>?_,fun wG=>?_⟩
  ·rw [show ag (((64*q:Nat):Int)+((4*t:Nat):Int))=64*q+4*t by omega,show ag (((64*q:Nat):Int)+((4*t:Nat):Int)+1)=64*q+(4*t+1) by omega,show ag (((64*q:Nat):Int)+((4*t:Nat):Int)+2)=64*q+(4*t+2) by omega,show ag (((64*q:Nat):Int)+((4*t:Nat):Int)+3)=64*q+(4*t+3) by omega];rw [Xz _ (by omega),Xz _ (by omega),Xz _ (by omega),Xz _ (by omega),TE (hB _ (by omega)) (hB _ (by omega)) (hB _ (by omega)) (hB _ (by omega))];refine⟨by omega,fun _=>?_⟩;refine⟨by omega,fun _=>?_⟩;refine⟨by omega,fun _=>?_⟩;refine⟨by omega,fun _=>?_⟩;refine⟨by omega,fun _=>?_⟩;refine⟨by omega,fun _=>?_⟩;refine⟨by omega,fun _=>?_⟩;refine⟨by omega,fun _=>?_⟩;refine⟨by omega,fun _=>?_⟩;refine⟨by omega,fun _=>?_⟩;refine⟨by omega,fun _=>?_⟩;refine⟨by omega,fun _=>?_⟩;refine⟨by omega,fun _=>?_⟩;refine⟨by omega,fun _=>?_⟩;refine⟨by omega,fun _=>?_⟩;refine⟨by omega,fun _=>?_⟩;refine⟨by omega,fun _=>?_⟩;refine⟨by omega,fun _=>?_⟩;intro b1;refine⟨by omega,fun _=>?_⟩;refine⟨by omega,fun _=>?_⟩;intro v5;refine⟨by omega,fun _=>?_⟩;refine⟨by omega,fun _=>?_⟩;refine⟨_,(t:Int)+1,_,rfl,rfl,rfl,rfl,fun _ _=>rfl,⟨t+1,by omega,rfl,fun j hj=>?_⟩,?_⟩
   ·simp only [ah];rw [Int.toNat_natCast];by_cases Hq:j=t
    ·subst Hq;unfold aj;rw [if_pos rfl];rfl
    ·rw [bE Hq];exact h3 j (by omega)
   ·simp only [ah];omega
  have ZF:t=16:=by omega
  subst ZF;refine⟨fun e=> ∃n:Nat,n≤48∧e.i=[((n+16:Nat):Int)]∧∀j,j<n+16→e.a.getD 0 (fun _=>0) j=((fg B n j:Nat):Int),fun e=>(64 - e.i.getD 0 0).toNat,⟨_,_,A3,rfl,rfl,rfl,rfl,fun _ _=>rfl,0,by omega,rfl,fun j hj=>?_⟩,?_⟩
  ·simp only [ah];rw [h3 j (by omega)];unfold fg;rw [if_pos (by omega)]
  rintro v5 aG A4 ⟨n,hn,hx,h4⟩;simp only [List.cons.injEq,and_true]at hx;subst hx;simp only [ah]at h4;have hl:=Hl hB n;refine⟨fun cK=>?_,fun wG=>?_⟩
  ·rw [show ag (((n+16:Nat):Int) - 2)=n+14 by omega,show ag (((n+16:Nat):Int) - 7)=n+9 by omega,show ag (((n+16:Nat):Int) - 15)=n+1 by omega,show ag (((n+16:Nat):Int) - 16)=n by omega];rw [h4 (n+14) (by omega),h4 (n+9) (by omega),h4 (n+1) (by omega),h4 n (by omega)];refine⟨by omega,fun _=>?_⟩;refine⟨by omega,fun _=>?_⟩;refine⟨by omega,fun _=>?_⟩;refine⟨by omega,fun _=>?_⟩;refine⟨by omega,fun _=>?_⟩;refine⟨by omega,fun _=>?_⟩;refine⟨by omega,fun _=>?_⟩;refine⟨by omega,fun _=>?_⟩;refine⟨by omega,fun _=>?_⟩;refine⟨by omega,fun _=>?_⟩;refine⟨by omega,fun _=>?_⟩;refine⟨by omega,fun _=>?_⟩;refine⟨by omega,fun _=>?_⟩;refine⟨by omega,fun _=>?_⟩;refine⟨by omega,fun _=>?_⟩;refine⟨by omega,fun _=>?_⟩;refine⟨_,Fu _ (hl _),?_⟩;rintro r hs ⟨rfl,rfl⟩;refine⟨_,rfl,rfl,?_⟩;refine⟨_,Ft _ (hl _),?_⟩;rintro r hs ⟨rfl,rfl⟩;refine⟨_,rfl,rfl,?_⟩;refine⟨_,aZ 32 rfl rfl (by decide),?_⟩;rintro r hs ⟨rfl,rfl⟩;refine⟨rfl,rfl,?_⟩;rw [VY (VL (hl _)) (hl _) (VK (hl _)) (hl _)];intro b1;refine⟨by omega,fun _=>?_⟩;refine⟨by omega,fun _=>?_⟩;intro v6;refine⟨by omega,fun _=>?_⟩;refine⟨by omega,fun _=>?_⟩;refine⟨_,((n+16:Nat):Int)+1,_,rfl,rfl,rfl,rfl,fun _ _=>rfl,⟨n+1,by omega,?_,fun j hj=>?_⟩,?_⟩
   ·exact congrArg (fun x=>[x]) (show((n+16:Nat):Int)+1=((n+1+16:Nat):Int) by omega)
   ·simp only [ah];rw [Int.toNat_natCast,fg];unfold aj;dsimp only;by_cases Hq:j=n+16
    ·rw [if_pos Hq,if_pos Hq]
    ·rw [if_neg Hq,if_neg Hq];exact h4 j (by omega)
   ·simp only [ah];omega
  have ZG:n=48:=by omega
  subst ZG;intro v6 v7;have hv:=Hm (K:=K0) (W:=fg B 48) hH;refine⟨fun e=> ∃a:Nat,a≤64∧e.i=[(a:Int)]∧∀j,j<8→e.a.getD 0 (fun _=>0) j=((QH K0 (fg B 48) (HB M q) a j:Nat):Int),fun e=>(64 - e.i.getD 0 0).toNat,⟨_,0,_,rfl,rfl,rfl,fun _ _=>rfl,0,by omega,rfl,fun j hj=>?_⟩,?_⟩
  ·simp only [ah];unfold aj
   match j,hj with
   | 0,_=>rfl
   | 1,_=>rfl
   | 2,_=>rfl
   | 3,_=>rfl
   | 4,_=>rfl
   | 5,_=>rfl
   | 6,_=>rfl
   | 7,_=>rfl
  rintro v8 aO A5 ⟨a,ha,hx,h5⟩;simp only [List.cons.injEq,and_true]at hx;subst hx;simp only [ah]at h5;refine⟨fun cK=>?_,fun wG=>?_⟩
  ·rw [Int.toNat_natCast,hC a (by omega),h4 a (by omega)];refine⟨by omega,fun _=>?_⟩;refine⟨by omega,fun _=>?_⟩;refine⟨by omega,fun _=>?_⟩;refine⟨_,Lh v8 A5 (QH K0 (fg B 48) (HB M q) a) (K0 a) (fg B 48 a) h5 (hv a) (VW a (by omega)) (hl a),?_⟩;rintro r hs ⟨v9,A6,rfl,rfl,h6⟩;refine⟨v9,A6,rfl,rfl,?_⟩;refine⟨by omega,fun _=>?_⟩;refine⟨by omega,fun _=>?_⟩;refine⟨_,(a:Int)+1,A6,rfl,rfl,rfl,fun _ _=>rfl,⟨a+1,by omega,rfl,h6⟩,?_⟩;simp only [ah];omega
  have Ht:a=64:=by omega
  subst Ht;refine⟨_,aZ 32 rfl rfl (by decide),?_⟩;rintro r hs ⟨rfl,rfl⟩;refine⟨rfl,rfl,?_⟩;refine⟨_,aZ 32 rfl rfl (by decide),?_⟩;rintro r hs ⟨rfl,rfl⟩;refine⟨rfl,rfl,?_⟩;refine⟨_,aZ 32 rfl rfl (by decide),?_⟩;rintro r hs ⟨rfl,rfl⟩;refine⟨rfl,rfl,?_⟩;refine⟨_,aZ 32 rfl rfl (by decide),?_⟩;rintro r hs ⟨rfl,rfl⟩;refine⟨rfl,rfl,?_⟩;refine⟨_,aZ 32 rfl rfl (by decide),?_⟩;rintro r hs ⟨rfl,rfl⟩;refine⟨rfl,rfl,?_⟩;refine⟨_,aZ 32 rfl rfl (by decide),?_⟩;rintro r hs ⟨rfl,rfl⟩;refine⟨rfl,rfl,?_⟩;refine⟨_,aZ 32 rfl rfl (by decide),?_⟩;rintro r hs ⟨rfl,rfl⟩;refine⟨rfl,rfl,?_⟩;refine⟨_,aZ 32 rfl rfl (by decide),?_⟩;rintro r hs ⟨rfl,rfl⟩;refine⟨rfl,rfl,?_⟩;have CD:=hv 64;obtain⟨R,hR⟩: ∃R:Nat→Nat,R=QH K0 (fg B 48) (HB M q) 64:=⟨_,rfl⟩;have hc:=IZ hR;rw [←hR]at h5 CD;have hs:HB M (q+1)=comp K0 (HB M q) B:=by rw [ZE];rfl
  rw [h5 0 (by omega),h5 1 (by omega),h5 2 (by omega),h5 3 (by omega),h5 4 (by omega),h5 5 (by omega),h5 6 (by omega),h5 7 (by omega)];rw [wo (hH 0 (by omega)) (CD 0 (by omega)),wo (hH 1 (by omega)) (CD 1 (by omega)),wo (hH 2 (by omega)) (CD 2 (by omega)),wo (hH 3 (by omega)) (CD 3 (by omega)),wo (hH 4 (by omega)) (CD 4 (by omega)),wo (hH 5 (by omega)) (CD 5 (by omega)),wo (hH 6 (by omega)) (CD 6 (by omega)),wo (hH 7 (by omega)) (CD 7 (by omega))];rw [←hc 0,←hc 1,←hc 2,←hc 3,←hc 4,←hc 5,←hc 6,←hc 7,←hs];refine⟨by omega,fun _=>?_⟩;refine⟨by omega,fun _=>?_⟩;refine⟨_,_,_,_,_,_,_,_,((64*q:Nat):Int)+64,rfl,rfl,rfl,rfl,rfl,rfl,rfl,rfl,rfl,⟨q+1,by omega,?_⟩,?_⟩
  ·rw [show((64*q:Nat):Int)+64=((64*(q+1):Nat):Int) by omega];rfl
  ·simp only [ah,aeg];omega
 have Pe:q=2:=by omega
 subst Pe;rw [Ow];generalize HB M 2=C at*;refine⟨fun e=> ∃a:Nat,a≤8∧e.i=[(a:Int),((4*a:Nat):Int)]∧(∀j,j<8→e.a.getD 1 (fun _=>0) j=((C j:Nat):Int))∧∀j,j<4*a→e.a.getD 0 (fun _=>0) j=((bytesOf C j:Nat):Int),fun e=>(8 - e.i.getD 0 0).toNat,
  ⟨_,0,0,fun _=>0,_,rfl,rfl,fun _ _=>rfl,rfl,rfl,fun _ _=>rfl,0,by omega,rfl,fun j hj=>?_,fun j hj=>absurd hj (by omega)⟩,?_⟩
 ·simp only [ah,aeg];unfold aj
  match j,hj with
  | 0,_=>rfl
  | 1,_=>rfl
  | 2,_=>rfl
  | 3,_=>rfl
  | 4,_=>rfl
  | 5,_=>rfl
  | 6,_=>rfl
  | 7,_=>rfl
 rintro v4 x9 aG A3 A4 ⟨a,ha,hx,h4,h3⟩;simp only [List.cons.injEq,and_true]at hx;obtain⟨rfl,rfl⟩:=hx;simp only [ah,aeg]at h4 h3;refine⟨fun cK=>?_,fun wG=>?_⟩
 ·rw [show ag (a:Int)=a from Int.toNat_natCast a,h4 a (by omega),o24 (hH a (by omega)),o16 (hH a (by omega)),o8 (hH a (by omega)),o0 (hH a (by omega))];refine⟨by omega,fun _=>?_⟩;refine⟨_,aZ 24 rfl rfl (by decide),?_⟩;rintro r hs ⟨rfl,rfl⟩;refine⟨rfl,rfl,?_⟩;intro b1;refine⟨by omega,fun _=>?_⟩;refine⟨by omega,fun _=>?_⟩;intro v5;refine⟨_,aZ 16 rfl rfl (by decide),?_⟩;rintro r hs ⟨rfl,rfl⟩;refine⟨rfl,rfl,?_⟩;intro b2;refine⟨by omega,fun _=>?_⟩;refine⟨by omega,fun _=>?_⟩;intro v6;refine⟨_,aZ 8 rfl rfl (by decide),?_⟩;rintro r hs ⟨rfl,rfl⟩;refine⟨rfl,rfl,?_⟩;intro b3;refine⟨by omega,fun _=>?_⟩;refine⟨by omega,fun _=>?_⟩;intro v7;refine⟨_,aZ 0 rfl rfl (by decide),?_⟩;rintro r hs ⟨rfl,rfl⟩;refine⟨rfl,rfl,?_⟩;intro b4;refine⟨by omega,fun _=>?_⟩;refine⟨by omega,fun _=>?_⟩;intro v8;refine⟨by omega,fun _=>?_⟩;refine⟨by omega,fun _=>?_⟩;refine⟨_,(a:Int)+1,_,_,A4,rfl,rfl,fun _ _=>rfl,rfl,rfl,fun _ _=>rfl,⟨a+1,by omega,?_,?_,fun j hj=>?_⟩,?_⟩
  ·rw [show((4*a:Nat):Int)+1+1+1+1=((4*(a+1):Nat):Int) by omega];rfl
  ·simp only [ah,aeg];exact h4
  ·simp only [ah];rw [show ag ((4*a:Nat):Int)=4*a by omega,show ag (((4*a:Nat):Int)+1)=4*a+1 by omega,show ag (((4*a:Nat):Int)+1+1)=4*a+2 by omega,show ag (((4*a:Nat):Int)+1+1+1)=4*a+3 by omega];unfold aj bytesOf;by_cases j3:j=4*a+3
   ·rw [if_pos j3,show j/4=a by omega,show 24 - 8*(j%4)=0 by omega]
   rw [if_neg j3];by_cases j2:j=4*a+2
   ·rw [if_pos j2,show j/4=a by omega,show 24 - 8*(j%4)=8 by omega]
   rw [if_neg j2];by_cases j1:j=4*a+1
   ·rw [if_pos j1,show j/4=a by omega,show 24 - 8*(j%4)=16 by omega]
   rw [if_neg j1];by_cases j0:j=4*a
   ·rw [if_pos j0,show j/4=a by omega,show 24 - 8*(j%4)=24 by omega]
   rw [if_neg j0];exact h3 j (by omega)
  ·simp only [ah];omega
 have Zu:a=8:=by omega
 subst Zu;exact⟨_,_,rfl,rfl,rfl,fun j hj=>h3 j (by omega)⟩
open Go.RX Go.Proofs
theorem Oy{A0 A1 A2:Nat→Int}{I O N:Nat→Nat}{d0 d1 d2 d3:Nat}(h0: ∀j,j<16→A0 j=(I j:Nat))(h1: ∀j,j<32→A1 j=(O j:Nat))(h2: ∀j,j<32→A2 j=(N j:Nat))(j:Nat)(hj:j<96):
  (aW (aW (aW (aj (aj (aj (aj (aj (aj (aj (aj (aj (aj (aj (aj (aj (aj (aj (aW (aj (aj (aj (aj (aj (aj (aj (aj (aj (aj (aj (aj (fun _=>0) 0 104) 1 97) 2 105) 3 108) 4 101) 5 114) 6 32) 7 109) 8 101) 9 100) 10 105) 11 97) 12 1 (aj (fun _=>0) 0 (A0 0))) 13 (A0 1)) 14 (A0 2)) 15 (A0 3)) 16 (A0 4)) 17 (A0 5)) 18 (A0 6)) 19 (A0 7)) 20 (A0 8)) 21 (A0 9)) 22 (A0 10)) 23 (A0 11)) 24 (A0 12)) 25 (A0 13)) 26 (A0 14)) 27 (A0 15)) 28 32 (aj (aj (aj (aj (aj (aj (aj (aj (aj (aj (aj (aj (aj (aj (aj (aj (aj (aj (aj (aj (aj (aj (aj (aj (aj (aj (aj (aj (aj (aj (aj (aj (fun _=>0) 0 (A1 0)) 1 (A1 1)) 2 (A1 2)) 3 (A1 3)) 4 (A1 4)) 5 (A1 5)) 6 (A1 6)) 7 (A1 7)) 8 (A1 8)) 9 (A1 9)) 10 (A1 10)) 11 (A1 11)) 12 (A1 12)) 13 (A1 13)) 14 (A1 14)) 15 (A1 15)) 16 (A1 16)) 17 (A1 17)) 18 (A1 18)) 19 (A1 19)) 20 (A1 20)) 21 (A1 21)) 22 (A1 22)) 23 (A1 23)) 24 (A1 24)) 25 (A1 25)) 26 (A1 26)) 27 (A1 27)) 28 (A1 28)) 29 (A1 29)) 30 (A1 30)) 31 (A1 31))) 60 32 (aj (aj (aj (aj (aj (aj (aj (aj (aj (aj (aj (aj (aj (aj (aj (aj (aj (aj (aj (aj (aj (aj (aj (aj (aj (aj (aj (aj (aj (aj (aj (aj (fun _=>0) 0 (A2 0)) 1 (A2 1)) 2 (A2 2)) 3 (A2 3)) 4 (A2 4)) 5 (A2 5)) 6 (A2 6)) 7 (A2 7)) 8 (A2 8)) 9 (A2 9)) 10 (A2 10)) 11 (A2 11)) 12 (A2 12)) 13 (A2 13)) 14 (A2 14)) 15 (A2 15)) 16 (A2 16)) 17 (A2 17)) 18 (A2 18)) 19 (A2 19)) 20 (A2 20)) 21 (A2 21)) 22 (A2 22)) 23 (A2 23)) 24 (A2 24)) 25 (A2 25)) 26 (A2 26)) 27 (A2 27)) 28 (A2 28)) 29 (A2 29)) 30 (A2 30)) 31 (A2 31))) 92 4 (aj (aj (aj (aj (fun _=>0) 0 (d0:Int)) 1 (d1:Int)) 2 (d2:Int)) 3 (d3:Int))) j=((msg I O N d0 d1 d2 d3 j:Nat):Int):=by
 have:j=0∨j=1∨j=2∨j=3∨j=4∨j=5∨j=6∨j=7∨j=8∨j=9∨j=10∨j=11∨j=12∨j=13∨j=14∨j=15∨j=16∨j=17∨j=18∨j=19∨j=20∨j=21∨j=22∨j=23∨j=24∨j=25∨j=26∨j=27∨j=28∨j=29∨j=30∨j=31∨j=32∨j=33∨j=34∨j=35∨j=36∨j=37∨j=38∨j=39∨j=40∨j=41∨j=42∨j=43∨j=44∨j=45∨j=46∨j=47∨j=48∨j=49∨j=50∨j=51∨j=52∨j=53∨j=54∨j=55∨j=56∨j=57∨j=58∨j=59∨j=60∨j=61∨j=62∨j=63∨j=64∨j=65∨j=66∨j=67∨j=68∨j=69∨j=70∨j=71∨j=72∨j=73∨j=74∨j=75∨j=76∨j=77∨j=78∨j=79∨j=80∨j=81∨j=82∨j=83∨j=84∨j=85∨j=86∨j=87∨j=88∨j=89∨j=90∨j=91∨j=92∨j=93∨j=94∨j=95:=by omega
 clear hj;rcases this with rfl | rfl | rfl | rfl | rfl | rfl | rfl | rfl | rfl | rfl | rfl | rfl | rfl | rfl | rfl | rfl | rfl | rfl | rfl | rfl | rfl | rfl | rfl | rfl | rfl | rfl | rfl | rfl | rfl | rfl | rfl | rfl | rfl | rfl | rfl | rfl | rfl | rfl | rfl | rfl | rfl | rfl | rfl | rfl | rfl | rfl | rfl | rfl | rfl | rfl | rfl | rfl | rfl | rfl | rfl | rfl | rfl | rfl | rfl | rfl | rfl | rfl | rfl | rfl | rfl | rfl | rfl | rfl | rfl | rfl | rfl | rfl | rfl | rfl | rfl | rfl | rfl | rfl | rfl | rfl | rfl | rfl | rfl | rfl | rfl | rfl | rfl | rfl | rfl | rfl | rfl | rfl | rfl | rfl | rfl | rfl
 ·rfl
 ·rfl
 ·rfl
 ·rfl
 ·rfl
 ·rfl
 ·rfl
 ·rfl
 ·rfl
 ·rfl
 ·rfl
 ·rfl
 ·exact h0 0 (by decide)
 ·exact h0 1 (by decide)
 ·exact h0 2 (by decide)
 ·exact h0 3 (by decide)
 ·exact h0 4 (by decide)
 ·exact h0 5 (by decide)
 ·exact h0 6 (by decide)
 ·exact h0 7 (by decide)
 ·exact h0 8 (by decide)
 ·exact h0 9 (by decide)
 ·exact h0 10 (by decide)
 ·exact h0 11 (by decide)
 ·exact h0 12 (by decide)
 ·exact h0 13 (by decide)
 ·exact h0 14 (by decide)
 ·exact h0 15 (by decide)
 ·exact h1 0 (by decide)
 ·exact h1 1 (by decide)
 ·exact h1 2 (by decide)
 ·exact h1 3 (by decide)
 ·exact h1 4 (by decide)
 ·exact h1 5 (by decide)
 ·exact h1 6 (by decide)
 ·exact h1 7 (by decide)
 ·exact h1 8 (by decide)
 ·exact h1 9 (by decide)
 ·exact h1 10 (by decide)
 ·exact h1 11 (by decide)
 ·exact h1 12 (by decide)
 ·exact h1 13 (by decide)
 ·exact h1 14 (by decide)
 ·exact h1 15 (by decide)
 ·exact h1 16 (by decide)
 ·exact h1 17 (by decide)
 ·exact h1 18 (by decide)
 ·exact h1 19 (by decide)
 ·exact h1 20 (by decide)
 ·exact h1 21 (by decide)
 ·exact h1 22 (by decide)
 ·exact h1 23 (by decide)
 ·exact h1 24 (by decide)
 ·exact h1 25 (by decide)
 ·exact h1 26 (by decide)
 ·exact h1 27 (by decide)
 ·exact h1 28 (by decide)
 ·exact h1 29 (by decide)
 ·exact h1 30 (by decide)
 ·exact h1 31 (by decide)
 ·exact h2 0 (by decide)
 ·exact h2 1 (by decide)
 ·exact h2 2 (by decide)
 ·exact h2 3 (by decide)
 ·exact h2 4 (by decide)
 ·exact h2 5 (by decide)
 ·exact h2 6 (by decide)
 ·exact h2 7 (by decide)
 ·exact h2 8 (by decide)
 ·exact h2 9 (by decide)
 ·exact h2 10 (by decide)
 ·exact h2 11 (by decide)
 ·exact h2 12 (by decide)
 ·exact h2 13 (by decide)
 ·exact h2 14 (by decide)
 ·exact h2 15 (by decide)
 ·exact h2 16 (by decide)
 ·exact h2 17 (by decide)
 ·exact h2 18 (by decide)
 ·exact h2 19 (by decide)
 ·exact h2 20 (by decide)
 ·exact h2 21 (by decide)
 ·exact h2 22 (by decide)
 ·exact h2 23 (by decide)
 ·exact h2 24 (by decide)
 ·exact h2 25 (by decide)
 ·exact h2 26 (by decide)
 ·exact h2 27 (by decide)
 ·exact h2 28 (by decide)
 ·exact h2 29 (by decide)
 ·exact h2 30 (by decide)
 ·exact h2 31 (by decide)
 ·rfl
 ·rfl
 ·rfl
 ·rfl
theorem CE(A0 A1 A2:Nat→Int)(I O N:Nat→Nat)(d0 d1 d2 d3:Nat)(h0: ∀j,j<16→A0 j=(I j:Nat))(h1: ∀j,j<32→A1 j=(O j:Nat))(h2: ∀j,j<32→A2 j=(N j:Nat))
  (hI: ∀j,j<16→I j<256) (hO: ∀j,j<32→O j<256) (hN: ∀j,j<32→N j<256) (e0:d0<256) (e1:d1<256) (e2:d2<256) (e3:d3<256):
  aq adY 45 [.agg (al .u8 16 A0++([])).toArray,.agg (al .u8 32 A1++([])).toArray,.agg (al .u8 32 A2++([])).toArray,.agg #[.int .u8 (d0:Int),.int .u8 (d1:Int)],.agg #[.int .u8 (d2:Int),.int .u8 (d3:Int)]] []
   (fun r hs=> ∃A:Nat→Int,r= .agg (al .u8 32 A++([])).toArray∧hs=[]∧∀j,j<32→A j=((sN (msg I O N d0 d1 d2 d3) j:Nat):Int)):=by
 refine aq.post (p:=fun r hs=> ∃A:Nat→Int,r= .agg (al .u8 32 A++([])).toArray∧∀j,j<32→A j=((sN (msg I O N d0 d1 d2 d3) j:Nat):Int)) ?_ fun v hs h=>⟨[],aD.sub (List.nil_sublist _),h.choose,h.choose_spec.1,rfl,h.choose_spec.2⟩
 refine aq.eA (C:=cx) (aQ:={i:=4,a:=3}) (ρ:={iv:=[(d0:Int),(d1:Int),(d2:Int),(d3:Int)],av:=[A0,A1,A2]}) pA gw pB Try.func45 (by constructor<;>rfl)
  (args:=([Go.RX.SV.agg [Go.RX.SV.aX (adG) 16 (Go.RX.E.aw 0)],Go.RX.SV.agg [Go.RX.SV.aX (adG) 32 (Go.RX.E.aw 1)],Go.RX.SV.agg [Go.RX.SV.aX (adG) 32 (Go.RX.E.aw 2)],Go.RX.SV.agg [Go.RX.SV.int (adG) (Go.RX.E.var 0),Go.RX.SV.int (adG) (Go.RX.E.var 1)],Go.RX.SV.agg [Go.RX.SV.int (adG) (Go.RX.E.var 2),Go.RX.SV.int (adG) (Go.RX.E.var 3)]])) (hp:=[]) ?_
 rw [show cC cx 45 ([Go.RX.SV.agg [Go.RX.SV.aX (adG) 16 (Go.RX.E.aw 0)],Go.RX.SV.agg [Go.RX.SV.aX (adG) 32 (Go.RX.E.aw 1)],Go.RX.SV.agg [Go.RX.SV.aX (adG) 32 (Go.RX.E.aw 2)],Go.RX.SV.agg [Go.RX.SV.int (adG) (Go.RX.E.var 0),Go.RX.SV.int (adG) (Go.RX.E.var 1)],Go.RX.SV.agg [Go.RX.SV.int (adG) (Go.RX.E.var 2),Go.RX.SV.int (adG) (Go.RX.E.var 3)]]) [] {i:=4,a:=3} Try.f45=vm from HD,Li];unfold Bx
 intros
 refine⟨_,HC _ _ I O N d0 d1 d2 d3 (Ol hI hO hN e0 e1 e2 e3) (Oy h0 h1 h2),?_⟩;rintro r hs ⟨v,A,rfl,rfl,hA⟩;refine⟨v,A,rfl,rfl,A,?_,hA⟩
 kernel_rfl
end Go.RX.Sh

namespace Go.RX.Md
open Go.RX Go.Proofs Go.RX.Sh
def lead(x j:Nat):Nat:=if j=0 then x else 0
theorem q7{x:Nat}(hx:x<256)(j:Nat):lead x j<256:=by unfold lead;split<;>omega
theorem jU(x n:Nat):(.int .u8 (x:Int)::(al .u8 n (fun _=>0)++([])):List Value)=al .u8 (n+1) (fun j=>((lead x j:Nat):Int))++([]):=by
 simp [al,List.range_succ_eq_map,lead,Function.comp_def]
theorem TH(x y z d0 d1 d2 d3:Nat)(hx:x<256)(hy:y<256)(hz:z<256)(e0:d0<256)(e1:d1<256)(e2:d2<256)(e3:d3<256):
  aq adY 44 [.agg (.int .u8 (x:Int)::(al .u8 15 (fun _=>0)++([]))).toArray,.agg (.int .u8 (y:Int)::(al .u8 31 (fun _=>0)++([]))).toArray,.agg (.int .u8 (z:Int)::(al .u8 31 (fun _=>0)++([]))).toArray,.agg #[.int .u8 (d0:Int),.int .u8 (d1:Int)],.agg #[.int .u8 (d2:Int),.int .u8 (d3:Int)]] []
   (fun r hs=> ∃A:Nat→Int,r= .agg (al .u8 32 A++([])).toArray∧hs=[]∧∀j,j<32→A j=((sN (msg (lead x) (lead y) (lead z) d0 d1 d2 d3) j:Nat):Int)):=by
 rw [jU,jU,jU];exact wm _ _ _ _ _ _ d0 d1 d2 d3 (fun _ _=>rfl) (fun _ _=>rfl) (fun _ _=>rfl) (fun j _=>q7 hx j) (fun j _=>q7 hy j) (fun j _=>q7 hz j) e0 e1 e2 e3
theorem QU(x y z d0 d1 d2 d3:Nat)(hx:x<256)(hy:y<256)(hz:z<256)(e0:d0<256)(e1:d1<256)(e2:d2<256)(e3:d3<256):
  aq adY 45 [.agg (.int .u8 (x:Int)::(al .u8 15 (fun _=>0)++([]))).toArray,.agg (.int .u8 (y:Int)::(al .u8 31 (fun _=>0)++([]))).toArray,.agg (.int .u8 (z:Int)::(al .u8 31 (fun _=>0)++([]))).toArray,.agg #[.int .u8 (d0:Int),.int .u8 (d1:Int)],.agg #[.int .u8 (d2:Int),.int .u8 (d3:Int)]] []
   (fun r hs=> ∃A:Nat→Int,r= .agg (al .u8 32 A++([])).toArray∧hs=[]∧∀j,j<32→A j=((sN (msg (lead x) (lead y) (lead z) d0 d1 d2 d3) j:Nat):Int)):=by
 rw [jU,jU,jU];exact CE _ _ _ _ _ _ d0 d1 d2 d3 (fun _ _=>rfl) (fun _ _=>rfl) (fun _ _=>rfl) (fun j _=>q7 hx j) (fun j _=>q7 hy j) (fun j _=>q7 hz j) e0 e1 e2 e3
theorem z0:0≤(0:Int)∧(0:Int)<256:=by decide
theorem z1:0≤(1:Int)∧(1:Int)<256:=by decide
theorem ZH:0≤(128:Int)∧(128:Int)<256:=by decide
theorem Oz{A:Nat→Int}(h: ∀j,j<32→0≤A j∧A j<256)(j:Nat)(hj:j<64):
  0≤(aW (aj (aj (aj (aj (aj (aj (aj (aj (aj (aj (aj (aj (aj (aj (aj (aj (aj (aj (aj (aj (aj (aj (aj (aW A 32 1 (aj (fun _=>0) 0 128)) 33 0) 34 0) 35 0) 36 0) 37 0) 38 0) 39 0) 40 0) 41 0) 42 0) 43 0) 44 0) 45 0) 46 0) 47 0) 48 0) 49 0) 50 0) 51 0) 52 0) 53 0) 54 0) 55 0) 56 8 (aj (aj (aj (aj (aj (aj (aj (aj (fun _=>0) 7 0) 6 1) 5 0) 4 0) 3 0) 2 0) 1 0) 0 0)) j∧(aW (aj (aj (aj (aj (aj (aj (aj (aj (aj (aj (aj (aj (aj (aj (aj (aj (aj (aj (aj (aj (aj (aj (aj (aW A 32 1 (aj (fun _=>0) 0 128)) 33 0) 34 0) 35 0) 36 0) 37 0) 38 0) 39 0) 40 0) 41 0) 42 0) 43 0) 44 0) 45 0) 46 0) 47 0) 48 0) 49 0) 50 0) 51 0) 52 0) 53 0) 54 0) 55 0) 56 8 (aj (aj (aj (aj (aj (aj (aj (aj (fun _=>0) 7 0) 6 1) 5 0) 4 0) 3 0) 2 0) 1 0) 0 0)) j<256:=by
 have:j=0∨j=1∨j=2∨j=3∨j=4∨j=5∨j=6∨j=7∨j=8∨j=9∨j=10∨j=11∨j=12∨j=13∨j=14∨j=15∨j=16∨j=17∨j=18∨j=19∨j=20∨j=21∨j=22∨j=23∨j=24∨j=25∨j=26∨j=27∨j=28∨j=29∨j=30∨j=31∨j=32∨j=33∨j=34∨j=35∨j=36∨j=37∨j=38∨j=39∨j=40∨j=41∨j=42∨j=43∨j=44∨j=45∨j=46∨j=47∨j=48∨j=49∨j=50∨j=51∨j=52∨j=53∨j=54∨j=55∨j=56∨j=57∨j=58∨j=59∨j=60∨j=61∨j=62∨j=63:=by omega
 clear hj;rcases this with rfl | rfl | rfl | rfl | rfl | rfl | rfl | rfl | rfl | rfl | rfl | rfl | rfl | rfl | rfl | rfl | rfl | rfl | rfl | rfl | rfl | rfl | rfl | rfl | rfl | rfl | rfl | rfl | rfl | rfl | rfl | rfl | rfl | rfl | rfl | rfl | rfl | rfl | rfl | rfl | rfl | rfl | rfl | rfl | rfl | rfl | rfl | rfl | rfl | rfl | rfl | rfl | rfl | rfl | rfl | rfl | rfl | rfl | rfl | rfl | rfl | rfl | rfl | rfl
 ·exact h _ (by decide)
 ·exact h _ (by decide)
 ·exact h _ (by decide)
 ·exact h _ (by decide)
 ·exact h _ (by decide)
 ·exact h _ (by decide)
 ·exact h _ (by decide)
 ·exact h _ (by decide)
 ·exact h _ (by decide)
 ·exact h _ (by decide)
 ·exact h _ (by decide)
 ·exact h _ (by decide)
 ·exact h _ (by decide)
 ·exact h _ (by decide)
 ·exact h _ (by decide)
 ·exact h _ (by decide)
 ·exact h _ (by decide)
 ·exact h _ (by decide)
 ·exact h _ (by decide)
 ·exact h _ (by decide)
 ·exact h _ (by decide)
 ·exact h _ (by decide)
 ·exact h _ (by decide)
 ·exact h _ (by decide)
 ·exact h _ (by decide)
 ·exact h _ (by decide)
 ·exact h _ (by decide)
 ·exact h _ (by decide)
 ·exact h _ (by decide)
 ·exact h _ (by decide)
 ·exact h _ (by decide)
 ·exact h _ (by decide)
 ·exact ZH
 ·exact z0
 ·exact z0
 ·exact z0
 ·exact z0
 ·exact z0
 ·exact z0
 ·exact z0
 ·exact z0
 ·exact z0
 ·exact z0
 ·exact z0
 ·exact z0
 ·exact z0
 ·exact z0
 ·exact z0
 ·exact z0
 ·exact z0
 ·exact z0
 ·exact z0
 ·exact z0
 ·exact z0
 ·exact z0
 ·exact z0
 ·exact z0
 ·exact z0
 ·exact z0
 ·exact z0
 ·exact z0
 ·exact z0
 ·exact z1
 ·exact z0
theorem CF{A:Nat→Int}(h: ∀j,j<32→0≤A j∧A j<256): ∃B:Nat→Nat,(∀j,j<64→(aW (aj (aj (aj (aj (aj (aj (aj (aj (aj (aj (aj (aj (aj (aj (aj (aj (aj (aj (aj (aj (aj (aj (aj (aW A 32 1 (aj (fun _=>0) 0 128)) 33 0) 34 0) 35 0) 36 0) 37 0) 38 0) 39 0) 40 0) 41 0) 42 0) 43 0) 44 0) 45 0) 46 0) 47 0) 48 0) 49 0) 50 0) 51 0) 52 0) 53 0) 54 0) 55 0) 56 8 (aj (aj (aj (aj (aj (aj (aj (aj (fun _=>0) 7 0) 6 1) 5 0) 4 0) 3 0) 2 0) 1 0) 0 0)) j=((B j:Nat):Int))∧∀j,j<64→B j<256:=
 ⟨fun j=>((aW (aj (aj (aj (aj (aj (aj (aj (aj (aj (aj (aj (aj (aj (aj (aj (aj (aj (aj (aj (aj (aj (aj (aj (aW A 32 1 (aj (fun _=>0) 0 128)) 33 0) 34 0) 35 0) 36 0) 37 0) 38 0) 39 0) 40 0) 41 0) 42 0) 43 0) 44 0) 45 0) 46 0) 47 0) 48 0) 49 0) 50 0) 51 0) 52 0) 53 0) 54 0) 55 0) 56 8 (aj (aj (aj (aj (aj (aj (aj (aj (fun _=>0) 7 0) 6 1) 5 0) 4 0) 3 0) 2 0) 1 0) 0 0)) j).toNat,fun j hj=>(Int.toNat_of_nonneg (Oz h j hj).1).symm,fun j hj=>(Int.toNat_lt (Oz h j hj).1).2 (Oz h j hj).2⟩
theorem OA{A B:Nat→Int}{f:Nat→Nat}{n:Nat}(hA: ∀j,j<n→A j=((f j:Nat):Int))(hB: ∀j,j<n→B j=((f j:Nat):Int)):((aec n).all fun j=>A j==B j)=true:=by
 rw [adI];intro j hj;have:=adU.1 hj;rw [hA j this,hB j this];exact beq_self_eq_true _
open Go.RX Go.Proofs Go.RX.Sh
theorem wc:aq adY 46 [] [] (fun v hs=>v= .bool true∧hs=[]):=by
 refine aq.bare (C:=cx) pA gw pB Try.func46 (fun v _=>v= .bool true) K4 (N5 adY (fun v _=>v= .bool true) _) ?_;unfold Fa
 intros
 refine⟨_,TH 5 1 2 0 0 1 1 (by decide) (by decide) (by decide) (by decide) (by decide) (by decide) (by decide),?_⟩;rintro x hs ⟨A0,rfl,rfl,hA⟩;refine⟨A0,rfl,rfl,?_⟩
 intros
 refine⟨_,oV,?_⟩;rintro r hs ⟨b,vh,vk,A,B,rfl,rfl,Zt,hB⟩;refine⟨b,vh,vk,A,B,rfl,rfl,?_⟩;have hb: ∀j,j<32→0≤A0 j∧A0 j<256:=fun j hj=>by
  rw [hA j hj];have:=Fj (comp K0 (comp K0 H0 (msg (lead 5) (lead 1) (lead 2) 0 0 1 1)) (fun i=>msg (lead 5) (lead 1) (lead 2) 0 0 1 1 (64+i))) j;unfold sN;omega
 obtain⟨Bt,Ua,UN⟩:=CF hb
 intros
 refine⟨_,mY b vh vk _ 64 A B _ K0 H0 Bt (by decide) Zt I0 hB Ua UN,?_⟩;rintro r hs ⟨A5,rfl,rfl, -⟩;refine⟨A5,rfl,rfl,?_⟩
 intros
 refine⟨_,QU 5 1 2 0 0 1 1 (by decide) (by decide) (by decide) (by decide) (by decide) (by decide) (by decide),?_⟩;rintro x hs ⟨A4,rfl,rfl,VV⟩;refine⟨A4,rfl,rfl,?_⟩;rw [OA hA VV]
end Go.RX.Md
