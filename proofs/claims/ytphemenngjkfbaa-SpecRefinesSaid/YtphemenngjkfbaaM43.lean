/- Four devices. -/
import Derived.Test.YtphemenngjkfbaaM40
import Derived.Test.YtphemenngjkfbaaM42
open Go.IntKind renaming wrap → ae
open Go.Proofs.Try renaming prog → agQ
open Int renaming toNat → ag
open List renaming getD_cons_zero → ah, getElem?_eq_none → ag7, getElem?_eq_some_iff → agx, map_congr_left → ag4, mem_range → agJ
open Nat renaming lt_of_lt_of_le → agI
namespace Go.RX.Dm
open Go.RX Go.Proofs Go.Cp Go.RX.Cs Go.RX.Ct Go.RX.Cu Go.RX.Cy Go.RX.Cz Go.RX.Da Go.RX.Dc Go.RX.Dd Go.RX.Df Go.RX.Dg Go.RX.Di Go.RX.Dj Go.RX.Dk Go.RX.Dl
set_option maxRecDepth 100000
theorem xt{f:Nat→Int}{n m L j:Nat}(hm:m=L - (n+1))(hn:n<L)(hj:j<L - 1):aG f n m (aJ f (n+1)) j=f (if j<n then j else j+1):=by
 simp only [aG,aJ];split<;>split<;>first | (congr 1;omega) | omega
theorem Qg{f:Nat→Int}{n m L j:Nat}(hm:m=L - (n+1))(hn:n<L)(hj:j<L - 1):aN (aG f (n*16) (m*16) (aJ f ((n+1)*16))) (j*16) 16=aN f ((if j<n then j else j+1)*16) 16:=by
 refine ag4 fun t ht=>?_
 have:=agJ.1 ht;simp only [aG,aJ];split<;>split<;>first | (congr 1;omega) | omega
theorem Qh{f:Nat→Int}{n m L j:Nat}(hm:m=L - (n+1))(hn:n<L)(hj:j<L - 1):aN (aG f (n*32) (m*32) (aJ f ((n+1)*32))) (j*32) 32=aN f ((if j<n then j else j+1)*32) 32:=by
 refine ag4 fun t ht=>?_
 have:=agJ.1 ht;simp only [aG,aJ];split<;>split<;>first | (congr 1;omega) | omega
theorem E3{A:cI}{l:List (Mg LI)}(h:fX A l){k:Nat}(hk:k<l.length):l[k]? =some (n_ A k):=by
 rw [h.e];simp [hk]
theorem _root_.Go.RX.Dg.fX.erase{A:cI}{l:List (Mg LI)}(h:fX A l){n m:Nat}(hn:n<l.length)(hm:m=l.length - (n+1)){B:cI}(h0:B 0=aG (A 0) n m (aJ (A 0) (n+1)))(h1:B 1=aG (A 1) n m (aJ (A 1) (n+1)))(h2:B 2=aG (A 2) n m (aJ (A 2) (n+1)))(h3:B 3=aG (A 3) n m (aJ (A 3) (n+1)))(h4:B 4=aG (A 4) n m (aJ (A 4) (n+1)))
  (h5:B 5=aG (A 5) (n*16) (m*16) (aJ (A 5) ((n+1)*16))) (h9:B 9=aG (A 9) (n*32) (m*32) (aJ (A 9) ((n+1)*32))) (W7:B 11=aG (A 11) n m (aJ (A 11) (n+1))):fX B (l.eraseIdx n):=by
 have hl:(l.eraseIdx n).length=l.length - 1:=List.length_eraseIdx_of_lt hn;refine⟨?_,?_⟩
 ·refine List.ext_getElem? fun j=>?_
  rw [hl];by_cases hj:j<l.length - 1
  ·have e1:n_ B j=n_ A (if j<n then j else j+1):=by
    simp only [n_,h0,h1,h2,h3,h4,h5,h9,W7,xt hm hn hj,Qg hm hn hj,Qh hm hn hj]
   rw [List.getElem?_map,List.getElem?_range hj,Option.map_some,e1,List.getElem?_eraseIdx];split
   ·exact E3 h (by omega)
   ·exact E3 h (by omega)
  ·rw [ag7 (by omega),ag7 (by simp;omega)]
 ·intro j hj;rw [hl]at hj;rw [h0,h1,h2,h3,h4,xt hm hn hj,xt hm hn hj,xt hm hn hj,xt hm hn hj,xt hm hn hj];exact h.f _ (by split<;>omega)
theorem gB{v:V1}{l:List (Mg LI)}{A:cI}(h:fX A l):aB [aC true 216 59 v.v l.length (aT l.length (rG A))] [df v l]:=
 aB.ex (F:=fun A:{A:cI // fX A l}=>aC true 216 59 v.v l.length (aT l.length (rG A.1))) ⟨A,h⟩ rfl
theorem xu{bm:Nat→Nat}{ms:Nat→Mc LI}{i:Nat}{m:Mc LI}(k:Nat):bP (fun k=>cJ (bm k) k (ms k)) i (cJ (bm i) i m) k=cJ (bm k) k (bP ms i m k):=by
 unfold bP;split
 ·rename_i h;rw [h]
 ·rfl
abbrev xw(bm:Nat→Nat)(ms:Nat→Mc LI):List HP:=[cJ (bm 0) 0 (ms 0),cJ (bm 1) 1 (ms 1),cJ (bm 2) 2 (ms 2),cJ (bm 3) 3 (ms 3)]
structure FB where
 b0:Nat
 b5:Nat
 b6:Nat
 b7:Nat
 b8:Nat
 bm:Nat→Nat
abbrev fZ(z:FB)(vf ve:V1)(s:Sy LI):HP:=gl z.b0 (s.now:Int) (s.dl:Int) z.bm vf ve z.b5 z.b6 z.b7 z.b8 false
abbrev gC(z:FB)(ve:V1)(s:Sy LI)(T:Nat):HP:=oK ve z.b5 z.b6 z.b7 z.b8 s.bb s.pr s.done s.eG s.lY T
abbrev four(z:FB)(vf ve:V1)(s:Sy LI)(T:Nat):List HP:=fZ z vf ve s::df vf s.bW::gC z ve s T::xw z.bm s.ms
abbrev Hl(z:FB)(vf ve:V1)(s:Sy LI)(T:Nat)(A:cI):List HP:=fZ z vf ve s::aC true 216 59 vf.v s.bW.length (aT s.bW.length (rG A))::gC z ve s T::xw z.bm s.ms
theorem swap{W:Value→Rs LI→Value→Prop}{f b i now:Nat}{m:Mc LI}{args:List Value}(h:au agQ f args [cJ b i m] (yz W b i now)):
  au agQ f args [cJ b i m] fun rv hs=> ∃(v0 v1 v2:V1) (s:Rs LI) (e':List (Ev LI)),W (StV v0 v1 v2) s rv∧Tl [] e' s.e∧hs=[cJ b i s.m,eX v0 v1 v2 i now s.o e' s.r]:=
 h.post fun _ _ ⟨v0,v1,v2,s,e',h1,h2,h3⟩=>⟨_,h3▸gW [1,0] (by decide) rfl,v0,v1,v2,s,e',h1,h2,rfl⟩
structure Room (s:Sy LI) (T:Nat):Prop where
 now:s.now<1000000000
 bW:s.bW.length≤800000000
 T:T≤800000000
variable {F:Nat→LI→LI→Nat→Nat→LI} {H:LI→LI} {z:FB} {vf ve:V1} {s:Sy LI} {T:Nat}
abbrev Then(z:FB)(P:Sy LI→Prop)(T:Nat)(rv:Value)(hs:List HP):Prop:=rv= .tuple #[]∧∃(s':Sy LI) (fI fE:V1),P s'∧hs=four z fI fE s' T
theorem E4{P:Sy LI→Prop}{f:Nat}{args:List Value}{pre:List HP}(h:au agQ f args pre fun rv hs=>rv= .tuple #[]∧∃(s':Sy LI) (fI fE:V1),P s'∧aB hs (four z fI fE s' T)):au agQ f args pre (Then z P T):=
 h.post fun _ _ ⟨h1,s',fI,fE,h2,h3⟩=>⟨_,h3,h1,s',fI,fE,h2,rfl⟩
theorem yA(P:Sy LI→Prop)(hS:xq F H){n:Nat}{X:Mg LI}(hX:s.bW[n]? =some X)(hr:X.f<4∧X.t<4∧acc X.f≠acc X.t)(hk:Keys s)(hR:Room s T){A:cI}(hA:fX A s.bW)
  (hN: ∀q:Or,q.Ok X.t→∃s',(Keys s'→P s')∧After {s with bW:=s.bW.eraseIdx n} s' X.t (take zK F H X.t (s.ms X.t) X s.now q)):
  au agQ 99 [.pointer (some ⟨z.b0,0,none⟩),.int .i64 (n:Int)] (Hl z vf ve s T A) (Then z P (T+4)):=by
 refine E4 ?_;have hn:n<s.bW.length:=(agx.1 hX).1;have Xa:X=n_ A n:=by
  have:=E3 hA hn;rw [hX]at this;exact Option.some.inj this
 have hq:=hA.f n hn;have hd:X.t<4:=hr.2.1;obtain⟨di,hdi⟩: ∃di,di=X.t:=⟨_,rfl⟩;rw [←hdi]at hd hN;have ht:(di:Int)=A 2 n*2+A 3 n:=by
  have:X.t=(2*A 2 n+A 3 n).toNat:=by rw [Xa];rfl
  omega
 have hf:X.f=(2*A 0 n+A 1 n).toNat:=by rw [Xa];rfl
 have abH:A 0 n≠((di/2:Nat):Int):=by
  intro e;apply hr.2.2;unfold acc;omega
 have hm:=fun aq=>P5 di hd aq (s.now:Int) (s.dl:Int) 0 (s.bW.length:Int) (n:Int) (A 0) (A 1) (A 2) (A 3) (A 4) (A 5) (A 6) (A 7) (A 8) (A 9) (A 10) (A 11) vf ve z.b0 (z.bm 0) (z.bm 1) (z.bm 2) (z.bm 3) z.b5 z.b6 z.b7 z.b8 (gC z ve s T) (cJ (z.bm 0) 0 (s.ms 0)) (cJ (z.bm 1) 1 (s.ms 1)) (cJ (z.bm 2) 2 (s.ms 2)) (cJ (z.bm 3) 3 (s.ms 3)) (gC z ve s T)
 simp only [Int.toNat_natCast]at hm;refine hm _ ?_;clear hm;unfold py;obtain⟨sd0,sd1,sd2⟩:=EY hd;have su:=fun v=>PT hd (fun k=>cJ (z.bm k) k (s.ms k)) v
 have sf:=Bs hd (fun k=>cJ (z.bm k) k (s.ms k));simp only [Bs hd z.bm,sd0,sd1,sd2,sf,fun v=>(su v).1,fun v=>(su v).2.1,fun v=>(su v).2.2.1,fun v=>(su v).2.2.2,Qb,Wp,Int.toNat_natCast];have e1:ag ((s.bW.length:Int) - ((n:Int)+1))=s.bW.length - (n+1):=by omega
 have e2:ag ((n:Int)+((s.bW.length:Int) - ((n:Int)+1)))=s.bW.length - 1:=by omega
 have e3:ag ((n:Int)+1)=n+1:=by omega
 have e4:ag (((n:Int)+1)*16)=(n+1)*16:=by omega
 have e5:ag (((n:Int)+1)*32)=(n+1)*32:=by omega
 have e6:ag (((s.bW.length:Int) - ((n:Int)+1))*16)=(s.bW.length - (n+1))*16:=by omega
 have e7:ag (((s.bW.length:Int) - ((n:Int)+1))*32)=(s.bW.length - (n+1))*32:=by omega
 simp only [e1,e2,e3,e4,e5,e6,e7];have hfl:=hR.bW;refine⟨by omega,fun _=>⟨by omega,fun _=>fun b9=>⟨by omega,fun _=>⟨by omega,fun _=>⟨by omega,fun _=>⟨by omega,fun _=>⟨by omega,fun _=>⟨by omega,fun _=>⟨by omega,fun _=>⟨by omega,fun _=>fun v2=>?_⟩⟩⟩⟩⟩⟩⟩⟩⟩⟩;have RV:(s.bW.eraseIdx n).length=s.bW.length - 1:=List.length_eraseIdx_of_lt hn;refine⟨fun k=>k.p.getD 0 (df v2 [])=df v2 (s.bW.eraseIdx n),fun w Fs own=>⟨df v2 (s.bW.eraseIdx n),?_,rfl⟩,fun p6 Hm=>?_⟩
 ·have:=gB (v:=v2) (hA.erase (m:=s.bW.length - (n+1)) hn rfl (B:=fun c=>if c=5 then aG (A 5) (n*16) ((s.bW.length - (n+1))*16) (aJ (A 5) ((n+1)*16))else if c=9 then aG (A 9) (n*32) ((s.bW.length - (n+1))*32) (aJ (A 9) ((n+1)*32))else aG (A c) n (s.bW.length - (n+1)) (aJ (A c) (n+1))) rfl rfl rfl rfl rfl rfl rfl rfl);rw [RV]at this;exact this w Fs own
 simp only [ah]at Hm;subst Hm
 iterate 8 refine⟨by omega,fun _=>?_⟩
 refine⟨fun _=>True,fun w Fs own=>⟨ht,own,trivial⟩,fun _=>fun jI lV=>⟨fun c=>absurd (by omega) c,fun _=>?_⟩⟩;have hc:VS X.c:=(hk.s X (List.mem_of_getElem? hX)).c;refine⟨_,swap (De.Jn (z.bm di) di s.now hd (s.ms di) (hk.m di hd) hS (f0:=A 0 n) (f1:=A 1 n) (bM:=A 4 n) (bH:=A 6 n) (bL:=A 7 n) (bX:=A 8 n) (bZ:=A 10 n) (bS:=A 11 n) (A5:=aJ (A 5) (n*16)) (A6:=aJ (A 9) (n*32)) (X:=X) ⟨hq.1,hq.2.1⟩ abH (hk.s X (List.mem_of_getElem? hX)) ⟨rfl,by rw [Xa,bD,ib];rfl,hf,by rw [Xa,ib];rfl⟩ (by have h:X.k=(A 4 n).toNat:=(by rw [Xa];rfl);omega) (by have h:X.why=(A 11 n).toNat:=(by rw [Xa];rfl);omega)),?_⟩;rintro v hs ⟨v3,v4,v5,r,e',⟨rfl,q,Wq,rfl⟩,hT,rfl⟩;refine⟨v3,v4,v5,0,_,_,rfl,rfl,?_⟩;obtain⟨s',iX,a⟩:=hN q Wq;have kJ:nK (take zK F H di (s.ms di) X s.now q):=Nb (hk.m di hd) (hk.s X (List.mem_of_getElem? hX)) hS.ok q Wq.nI Wq.YK;refine⟨_,fR hd a kJ hT z.b0 z.b5 z.b6 z.b7 z.b8 T z.bm v2 ve v3 v4 v5 (by simp only [RV];omega) (by have:=hR.T;omega),?_⟩;rintro v hs ⟨rfl,fI,fE,rfl⟩;refine⟨fI,fE,false,df fI s'.bW,oK fE z.b5 z.b6 z.b7 z.b8 s'.bb s'.pr s'.done s'.eG s'.lY (T+4),rfl,(by rw [a.now,a.dl]),trivial,s',fI,fE,iX ((hk.erase n).after a kJ),?_⟩;simp only [four,fZ,xw,a.now,a.dl,a.ms,xu];exact aB.refl _
end Go.RX.Dm

namespace Go.RX.Dn
open Go.RX Go.Proofs Go.Cp Go.RX.Cs Go.RX.Ct Go.RX.Cu Go.RX.Cy Go.RX.Cz Go.RX.Da Go.RX.Dc Go.RX.Dd Go.RX.Df Go.RX.Dg Go.RX.Di Go.RX.Dj Go.RX.Dk Go.RX.Dl Go.RX.Dm
set_option maxRecDepth 100000
variable {F:Nat→LI→LI→Nat→Nat→LI} {H:LI→LI} {z:FB} {vf ve:V1} {s:Sy LI} {T:Nat}
theorem Qi{n d:Nat}(h:n+d<2^64):ae .u64 ((n:Int)+(d:Int))=((n+d:Nat):Int):=by
 have h3: ∀k:Nat,ae .u64 (k:Int)=((k%2^64:Nat):Int):=fun k=>by simp [ae,IntKind.bits,IntKind.signed]
 rw [←Int.natCast_add,h3,Nat.mod_eq_of_lt h]
theorem yB(P:Nat→Sy LI→Prop){d:Nat}(hd:d≤100)(hk:Keys s)(hR:Room s T)(hF: ∀j s,P j s→s.bW.length≤900000000)
  (h0:P 0 {s with now:=s.now+d}) (hN: ∀j s,j<4→P j s→∀q:Or,q.Ok j→∃s',P (j+1) s'∧After s s' j (tick zK j (s.ms j) s.now q)):
  au agQ 100 [.pointer (some ⟨z.b0,0,none⟩),.int .u64 (d:Int)] (four z vf ve s T) (Then z (fun s'=>P 4 s'∧Keys s') (T+16)):=by
 refine E4 ?_;have Wt:=hR.now;have hT:=hR.T;refine P_ _ (s.now:Int) (s.dl:Int) 0 0 (d:Int) (fun _=>0) (fun _=>0) (fun _=>0) (fun _=>0) (fun _=>0) (fun _=>0) (fun _=>0) (fun _=>0) (fun _=>0) (fun _=>0) (fun _=>0) (fun _=>0) vf ve z.b0 (z.bm 0) (z.bm 1) (z.bm 2) (z.bm 3) z.b5 z.b6 z.b7 z.b8 (gC z ve s T) (cJ (z.bm 0) 0 (s.ms 0)) (cJ (z.bm 1) 1 (s.ms 1)) (cJ (z.bm 2) 2 (s.ms 2)) (cJ (z.bm 3) 3 (s.ms 3)) (df vf s.bW) ?_;unfold Hg;rw [Qi (show s.now+d<2^64 by omega)];have g0:Keys {s with now:=s.now+d}:=⟨hk.m,hk.s⟩;refine⟨_,swap (Dd.qg (z.bm 0) 0 (s.now+d) (by decide) (s.ms 0) (hk.m 0 (by decide)) (by omega)),?_⟩;rintro v hs ⟨w0,w1,w2,r,e',⟨rfl,q,hq,rfl⟩,ht,rfl⟩;refine⟨w0,w1,w2,0,_,_,rfl,rfl,?_⟩;obtain⟨s1,h1,a1⟩:=hN 0 _ (by decide) h0 q hq;have f1:nK (tick zK 0 (s.ms 0) (s.now+d) q):=sF (hk.m 0 (by decide)) q hq.nI;have g1:Keys s1:=g0.after a1 f1;have k1:=fR (by decide) a1 f1 ht z.b0 z.b5 z.b6 z.b7 z.b8 (T+0) z.bm vf ve w0 w1 w2 (hF 0 _ h0) (by omega);refine⟨_,k1,?_⟩;rintro v hs ⟨rfl,vf1,ve1,rfl⟩;refine⟨vf1,ve1,false,df vf1 s1.bW,gC z ve1 s1 (T+4),rfl,(by rw [a1.now,a1.dl]),?_⟩;refine⟨_,swap (Dd.qg (z.bm 1) 1 (s.now+d) (by decide) (s.ms 1) (hk.m 1 (by decide)) (by omega)),?_⟩;rintro v hs ⟨w0,w1,w2,r,e',⟨rfl,q,hq,rfl⟩,ht,rfl⟩;refine⟨w0,w1,w2,0,_,_,rfl,rfl,?_⟩;obtain⟨s2,h2,a2⟩:=hN 1 _ (by decide) h1 q hq;have e1:s1.ms 1=s.ms 1:=by rw [a1.ms];rfl
 have n1:s1.now=s.now+d:=by rw [a1.now]
 have l1:s1.dl=s.dl:=by rw [a1.dl]
 rw [e1,n1]at a2;have f2:nK (tick zK 1 (s.ms 1) (s.now+d) q):=sF (hk.m 1 (by decide)) q hq.nI;have g2:Keys s2:=g1.after a2 f2;have k2:=fR (by decide) a2 f2 ht z.b0 z.b5 z.b6 z.b7 z.b8 (T+4) z.bm vf1 ve1 w0 w1 w2 (hF 1 _ h1) (by omega);rw [n1,l1]at k2;refine⟨_,k2,?_⟩;rintro v hs ⟨rfl,vf2,ve2,rfl⟩;refine⟨vf2,ve2,false,df vf2 s2.bW,gC z ve2 s2 (T+8),rfl,(by rw [a2.now,a2.dl];simp only [n1,l1]),?_⟩;refine⟨_,swap (Dd.qg (z.bm 2) 2 (s.now+d) (by decide) (s.ms 2) (hk.m 2 (by decide)) (by omega)),?_⟩;rintro v hs ⟨w0,w1,w2,r,e',⟨rfl,q,hq,rfl⟩,ht,rfl⟩;refine⟨w0,w1,w2,0,_,_,rfl,rfl,?_⟩;obtain⟨s3,h3,a3⟩:=hN 2 _ (by decide) h2 q hq;have e2:s2.ms 2=s.ms 2:=by rw [a2.ms,a1.ms];rfl
 have n2:s2.now=s.now+d:=by rw [a2.now,a1.now]
 have l2:s2.dl=s.dl:=by rw [a2.dl,a1.dl]
 rw [e2,n2]at a3;have f3:nK (tick zK 2 (s.ms 2) (s.now+d) q):=sF (hk.m 2 (by decide)) q hq.nI;have g3:Keys s3:=g2.after a3 f3;have k3:=fR (by decide) a3 f3 ht z.b0 z.b5 z.b6 z.b7 z.b8 (T+8) z.bm vf2 ve2 w0 w1 w2 (hF 2 _ h2) (by omega);rw [n2,l2]at k3;refine⟨_,k3,?_⟩;rintro v hs ⟨rfl,vf3,ve3,rfl⟩;refine⟨vf3,ve3,false,df vf3 s3.bW,gC z ve3 s3 (T+12),rfl,(by rw [a3.now,a3.dl];simp only [n2,l2]),?_⟩;refine⟨_,swap (Dd.qg (z.bm 3) 3 (s.now+d) (by decide) (s.ms 3) (hk.m 3 (by decide)) (by omega)),?_⟩;rintro v hs ⟨w0,w1,w2,r,e',⟨rfl,q,hq,rfl⟩,ht,rfl⟩;refine⟨w0,w1,w2,0,_,_,rfl,rfl,?_⟩;obtain⟨s4,h4,a4⟩:=hN 3 _ (by decide) h3 q hq;have e3:s3.ms 3=s.ms 3:=by rw [a3.ms,a2.ms,a1.ms];rfl
 have n3:s3.now=s.now+d:=by rw [a3.now,a2.now,a1.now]
 have l3:s3.dl=s.dl:=by rw [a3.dl,a2.dl,a1.dl]
 rw [e3,n3]at a4;have f4:nK (tick zK 3 (s.ms 3) (s.now+d) q):=sF (hk.m 3 (by decide)) q hq.nI;have g4:Keys s4:=g3.after a4 f4;have k4:=fR (by decide) a4 f4 ht z.b0 z.b5 z.b6 z.b7 z.b8 (T+12) z.bm vf3 ve3 w0 w1 w2 (hF 3 _ h3) (by omega);rw [n3,l3]at k4;refine⟨_,k4,?_⟩;rintro v hs ⟨rfl,vf4,ve4,rfl⟩;refine⟨vf4,ve4,false,df vf4 s4.bW,gC z ve4 s4 (T+16),rfl,(by rw [a4.now,a4.dl];simp only [n3,l3]),?_⟩;refine⟨rfl,s4,vf4,ve4,⟨h4,g4⟩,?_⟩;have n4:s4.now=s.now+d:=by rw [a4.now,n3]
 have l4:s4.dl=s.dl:=by rw [a4.dl,l3]
 simp only [four,Dm.fZ,xw,n4,l4,a4.ms,a3.ms,a2.ms,a1.ms];exact aB.refl _
end Go.RX.Dn

namespace Go.RX.Sh
open Go.RX
def pz(x n:Nat):Nat:=x/2^n+x*2^(32 - n)%2^32
def s0(x:Nat):Nat:=pz x 7^^^pz x 18^^^x/2^3
def s1(x:Nat):Nat:=pz x 17^^^pz x 19^^^x/2^10
def S0(x:Nat):Nat:=pz x 2^^^pz x 13^^^pz x 22
def S1(x:Nat):Nat:=pz x 6^^^pz x 11^^^pz x 25
def ch(x y z:Nat):Nat:=(x &&& y)^^^((2^32 - 1 - x) &&& z)
def Y0(x y z:Nat):Nat:=(x &&& y)^^^(x &&& z)^^^(y &&& z)
def word(B:Nat→Nat)(t:Nat):Nat:=((B (4*t)*256+B (4*t+1))*256+B (4*t+2))*256+B (4*t+3)
def gF(B:Nat→Nat):Nat→Nat→Nat
 | 0=>fun t=>if t<16 then word B t else 0
 | n+1=>fun t=>if t=n+16 then(s1 (gF B n (n+14))+gF B n (n+9)+s0 (gF B n (n+1))+gF B n n)%2^32 else gF B n t
def temp(v:Nat→Nat)(k w:Nat):Nat:=(v 7+S1 (v 4)+ch (v 4) (v 5) (v 6)+k+w)%2^32
def step(v:Nat→Nat)(k w j:Nat):Nat:=
 if j=0 then(temp v k w+(S0 (v 0)+Y0 (v 0) (v 1) (v 2))%2^32)%2^32
 else if j=4 then(v 3+temp v k w)%2^32
 else if j<8 then v (j - 1)else 0
theorem Wu(v:Nat→Nat)(k w:Nat):step v k w 0=(temp v k w+(S0 (v 0)+Y0 (v 0) (v 1) (v 2))%2^32)%2^32:=by
 unfold step;rw [if_pos rfl]
theorem Wv(v:Nat→Nat)(k w:Nat):step v k w 4=(v 3+temp v k w)%2^32:=by
 unfold step;rw [if_neg (by decide),if_pos rfl]
theorem xx(v:Nat→Nat)(k w:Nat){j:Nat}(h0:j≠0)(h4:j≠4)(h8:j<8):step v k w j=v (j - 1):=by
 unfold step;rw [if_neg h0,if_neg h4,if_pos h8]
def Xb(K W H:Nat→Nat):Nat→Nat→Nat
 | 0=>H
 | n+1=>step (Xb K W H n) (K n) (W n)
def comp(K H B:Nat→Nat)(j:Nat):Nat:=(H j+Xb K (gF B 48) H 64 j)%2^32
theorem E5{a b n:Nat}(ha:a<2^n)(hb:b<2^n):a^^^b<2^n:=Nat.xor_lt_two_pow ha hb
theorem rL{a b n:Nat}(ha:a<2^n):a &&& b<2^n:=Nat.lt_of_le_of_lt Nat.and_le_left ha
theorem mJ{x n:Nat}(hx:x<2^32)(hn:n≤32):pz x n<2^32:=by
 unfold pz;have h1:x*2^(32 - n)%2^32=x%2^n*2^(32 - n):=by
  have:(2:Nat)^32=2^n*2^(32 - n):=by rw [←Nat.pow_add];congr 1;omega
  rw [this,Nat.mul_mod_mul_right]
 rw [h1];have h2:x/2^n<2^(32 - n):=by
  apply Nat.div_lt_of_lt_mul;rw [←Nat.pow_add]
  rwa [show n+(32 - n)=32 by omega]
 have h3:x%2^n<2^n:=Nat.mod_lt _ (Nat.two_pow_pos n);have h4:(x%2^n+1)*2^(32 - n)≤2^n*2^(32 - n):=Nat.mul_le_mul_right _ h3;rw [←Nat.pow_add,show n+(32 - n)=32 by omega,Nat.add_mul]at h4;omega
theorem Td{x n:Nat}(hx:x<2^32)(hn:n≤32):(x >>> n)|||(x*2^(32 - n)%2^32)=pz x n:=by
 unfold pz;have h1:x*2^(32 - n)%2^32=2^(32 - n)*(x%2^n):=by
  have:(2:Nat)^32=2^n*2^(32 - n):=by rw [←Nat.pow_add];congr 1;omega
  rw [this,Nat.mul_mod_mul_right,Nat.mul_comm]
 have h2:x/2^n<2^(32 - n):=by
  apply Nat.div_lt_of_lt_mul;rw [←Nat.pow_add]
  rwa [show n+(32 - n)=32 by omega]
 rw [h1,Nat.shiftRight_eq_div_pow,Nat.or_comm,←Nat.two_pow_add_eq_or_of_lt h2,Nat.add_comm]
theorem wrap_u32(n:Nat):ae .u32 (n:Int)=((n%2^32:Nat):Int):=by
 simp [ae,IntKind.signed,IntKind.bits]
theorem wrap_u64(n:Nat):ae .u64 (n:Int)=((n%2^64:Nat):Int):=by
 simp [ae,IntKind.signed,IntKind.bits]
theorem wrap_u8(n:Nat):ae .u8 (n:Int)=((n%2^8:Nat):Int):=by
 simp [ae,IntKind.signed,IntKind.bits]
theorem jG(w n:Nat):(BitVec.ofInt w (n:Int)).toNat=n%2^w:=by
 simp
theorem yC{a b:Nat}(ha:a<2^32)(hb:b<2^32):aF .eH .u32 (a:Int) (b:Int)=((a^^^b:Nat):Int):=by
 show ae .u32 ((BitVec.ofInt 32 (a:Int)^^^BitVec.ofInt 32 (b:Int)).toNat:Int)=_;rw [wrap_u32,BitVec.toNat_xor,jG,jG,Nat.mod_eq_of_lt ha,Nat.mod_eq_of_lt hb,Nat.mod_eq_of_lt (E5 ha hb)]
theorem Hn{a b:Nat}(ha:a<2^32)(hb:b<2^32):aF .oT .u32 (a:Int) (b:Int)=((a &&& b:Nat):Int):=by
 show ae .u32 ((BitVec.ofInt 32 (a:Int) &&& BitVec.ofInt 32 (b:Int)).toNat:Int)=_;rw [wrap_u32,BitVec.toNat_and,jG,jG,Nat.mod_eq_of_lt ha,Nat.mod_eq_of_lt hb,Nat.mod_eq_of_lt (rL ha)]
theorem Y1{a b:Nat}(ha:a<2^32)(hb:b<2^32):aF .om .u32 (a:Int) (b:Int)=((a|||b:Nat):Int):=by
 show ae .u32 ((BitVec.ofInt 32 (a:Int)|||BitVec.ofInt 32 (b:Int)).toNat:Int)=_;rw [wrap_u32,BitVec.toNat_or,jG,jG,Nat.mod_eq_of_lt ha,Nat.mod_eq_of_lt hb,Nat.mod_eq_of_lt (Nat.or_lt_two_pow ha hb)]
theorem zw(k:IntKind)(a n:Nat)(hn:n≤k.bits):aF .shr k (a:Int) (n:Int)=((a >>> n:Nat):Int):=by
 show Int.fdiv (a:Int) (2^(min (n:Int).toNat k.bits))=_;rw [Int.toNat_natCast,Nat.min_eq_left hn,Nat.shiftRight_eq_div_pow,Int.fdiv_eq_ediv_of_nonneg _ (by exact Int.le_of_lt (Int.pow_pos (by decide)))];rw [Int.natCast_ediv,Int.natCast_pow];rfl
theorem Uv(a n:Nat)(hn:n≤32):aF .shl .u32 (a:Int) (n:Int)=((a*2^n%2^32:Nat):Int):=by
 show ae .u32 ((a:Int)*2^(min (n:Int).toNat 32))=_;rw [Int.toNat_natCast,Nat.min_eq_left hn];have:(a:Int)*2^n=((a*2^n:Nat):Int):=by rw [Int.natCast_mul,Int.natCast_pow];rfl
 rw [this,wrap_u32]
theorem Ho{x n:Nat}(hx:x<2^32)(hn:n≤32):aF .om .u32 (aF .shr .u32 (x:Int) (n:Int)) (aF .shl .u32 (x:Int) ((32 - n:Nat):Int))=((pz x n:Nat):Int):=by
 rw [zw .u32 x n hn,Uv x (32 - n) (by omega),Y1 (Nat.lt_of_le_of_lt (by rw [Nat.shiftRight_eq_div_pow];exact Nat.div_le_self _ _) hx) (Nat.mod_lt _ (by decide)),Td hx hn]
theorem Te{x n:Nat}(hx:x<2^32):x/2^n<2^32:=Nat.lt_of_le_of_lt (Nat.div_le_self _ _) hx
theorem pS{x a b c:Nat}(hx:x<2^32)(ha:a≤32)(hb:b≤32)(hc:c≤32):
  aF .eH .u32 (aF .eH .u32 (aF .om .u32 (aF .shr .u32 (x:Int) (a:Int)) (aF .shl .u32 (x:Int) ((32 - a:Nat):Int))) (aF .om .u32 (aF .shr .u32 (x:Int) (b:Int)) (aF .shl .u32 (x:Int) ((32 - b:Nat):Int))))
   (aF .om .u32 (aF .shr .u32 (x:Int) (c:Int)) (aF .shl .u32 (x:Int) ((32 - c:Nat):Int)))=((pz x a^^^pz x b^^^pz x c:Nat):Int):=by
 rw [Ho hx ha,Ho hx hb,Ho hx hc,yC (mJ hx ha) (mJ hx hb),yC (E5 (mJ hx ha) (mJ hx hb)) (mJ hx hc)]
theorem ps{x a b c:Nat}(hx:x<2^32)(ha:a≤32)(hb:b≤32)(hc:c≤32):
  aF .eH .u32 (aF .eH .u32 (aF .om .u32 (aF .shr .u32 (x:Int) (a:Int)) (aF .shl .u32 (x:Int) ((32 - a:Nat):Int))) (aF .om .u32 (aF .shr .u32 (x:Int) (b:Int)) (aF .shl .u32 (x:Int) ((32 - b:Nat):Int))))
   (aF .shr .u32 (x:Int) (c:Int))=((pz x a^^^pz x b^^^x/2^c:Nat):Int):=by
 rw [Ho hx ha,Ho hx hb,zw .u32 x c hc,yC (mJ hx ha) (mJ hx hb),Nat.shiftRight_eq_div_pow,yC (E5 (mJ hx ha) (mJ hx hb)) (Te hx)]
theorem abR{x:Nat}(hx:x<2^32):aF .eH .u32 (aF .eH .u32 (aF .om .u32 (aF .shr .u32 (x:Int) 7) (aF .shl .u32 (x:Int) 25)) (aF .om .u32 (aF .shr .u32 (x:Int) 18) (aF .shl .u32 (x:Int) 14))) (aF .shr .u32 (x:Int) 3)=((s0 x:Nat):Int):=
 ps (a:=7) (b:=18) (c:=3) hx (by decide) (by decide) (by decide)
theorem abS{x:Nat}(hx:x<2^32):aF .eH .u32 (aF .eH .u32 (aF .om .u32 (aF .shr .u32 (x:Int) 17) (aF .shl .u32 (x:Int) 15)) (aF .om .u32 (aF .shr .u32 (x:Int) 19) (aF .shl .u32 (x:Int) 13))) (aF .shr .u32 (x:Int) 10)=((s1 x:Nat):Int):=
 ps (a:=17) (b:=19) (c:=10) hx (by decide) (by decide) (by decide)
theorem abT{x:Nat}(hx:x<2^32):aF .eH .u32 (aF .eH .u32 (aF .om .u32 (aF .shr .u32 (x:Int) 2) (aF .shl .u32 (x:Int) 30)) (aF .om .u32 (aF .shr .u32 (x:Int) 13) (aF .shl .u32 (x:Int) 19))) (aF .om .u32 (aF .shr .u32 (x:Int) 22) (aF .shl .u32 (x:Int) 10))=((S0 x:Nat):Int):=
 pS (a:=2) (b:=13) (c:=22) hx (by decide) (by decide) (by decide)
theorem abU{x:Nat}(hx:x<2^32):aF .eH .u32 (aF .eH .u32 (aF .om .u32 (aF .shr .u32 (x:Int) 6) (aF .shl .u32 (x:Int) 26)) (aF .om .u32 (aF .shr .u32 (x:Int) 11) (aF .shl .u32 (x:Int) 21))) (aF .om .u32 (aF .shr .u32 (x:Int) 25) (aF .shl .u32 (x:Int) 7))=((S1 x:Nat):Int):=
 pS (a:=6) (b:=11) (c:=25) hx (by decide) (by decide) (by decide)
theorem Y2{x:Nat}(hx:x<2^32):(4294967295:Nat)^^^x=2^32 - 1 - x:=by
 have h:=Nat.xor_comm 4294967295 x;apply Nat.eq_of_testBit_eq;intro i;rw [Nat.testBit_xor,show(4294967295:Nat)=2^32 - 1 from rfl,Nat.testBit_two_pow_sub_one,show 2^32 - 1 - x=2^32 - (x+1) by omega,Nat.testBit_two_pow_sub_succ hx];by_cases hi:i<32
 ·simp [hi]
 ·have:x.testBit i=false:=Nat.testBit_lt_two_pow (agI hx (Nat.pow_le_pow_right (by decide) (by omega)));simp [hi,this]
theorem abV{x y z:Nat}(hx:x<2^32)(hy:y<2^32)(hz:z<2^32):aF .eH .u32 (aF .oT .u32 (x:Int) (y:Int)) (aF .oT .u32 (aF .eH .u32 4294967295 (x:Int)) (z:Int))=((ch x y z:Nat):Int):=by
 have h1:aF .eH .u32 4294967295 (x:Int)=((2^32 - 1 - x:Nat):Int):=by
  rw [←Y2 hx];exact yC (a:=4294967295) (by decide) hx
 rw [h1,Hn hx hy,Hn (by omega) hz,yC (rL hx) (rL (by omega))];rfl
theorem Y3{x y z:Nat}(hx:x<2^32)(hy:y<2^32)(hz:z<2^32):aF .eH .u32 (aF .eH .u32 (aF .oT .u32 (x:Int) (y:Int)) (aF .oT .u32 (x:Int) (z:Int))) (aF .oT .u32 (y:Int) (z:Int))=((Y0 x y z:Nat):Int):=by
 rw [Hn hx hy,Hn hx hz,Hn hy hz,yC (rL hx) (rL hx),yC (E5 (rL hx) (rL hx)) (rL hy)];rfl
theorem rM(a b:Nat):ae .u32 ((a:Int)+(b:Int))=(((a+b)%2^32:Nat):Int):=by rw [←Int.natCast_add,wrap_u32]
theorem Qj{B:Nat→Nat}(hB: ∀j,j<64→B j<256): ∀(n t:Nat),gF B n t<2^32
 | 0,t=>by
  unfold gF;split
  ·rename_i h;have h0:=hB (4*t) (by omega);have h1:=hB (4*t+1) (by omega);have h2:=hB (4*t+2) (by omega);have h3:=hB (4*t+3) (by omega);unfold word;omega
  ·decide
 | n+1,t=>by
  unfold gF;split
  ·exact Nat.mod_lt _ (by decide)
  ·exact Qj hB n t
theorem Tf{v:Nat→Nat}(hv: ∀j,j<8→v j<2^32)(k w:Nat)(j:Nat)(hj:j<8):step v k w j<2^32:=by
 have hp:0<2^32:=Nat.two_pow_pos 32;unfold step;split
 ·exact Nat.mod_lt _ hp
 ·split
  ·exact Nat.mod_lt _ hp
  ·exact hv _ (by omega)
theorem Qk{K W H:Nat→Nat}(hH: ∀j,j<8→H j<2^32): ∀n j,j<8→Xb K W H n j<2^32
 | 0=>hH
 | n+1=>Tf (Qk hH n) _ _
theorem Tg{K H B:Nat→Nat}(j:Nat):comp K H B j<2^32:=Nat.mod_lt _ (by decide)
def fill(B:Nat→Nat):Nat→Nat→Nat
 | 0=>fun _=>0
 | i+1=>fun t=>if t=i/4 then(fill B i (i/4)*256%2^32)|||B i else fill B i t
def part(B:Nat→Nat)(t:Nat):Nat→Nat
 | 0=>0
 | k+1=>part B t k*256+B (4*t+k)
theorem K9{B:Nat→Nat}{t:Nat}(hB: ∀j,j<64→B j<256)(ht:t<16): ∀k,k≤4→part B t k<256^k
 | 0,_=>by simp [part]
 | k+1,hk=>by
  have:=K9 hB ht k (by omega);have h:=hB (4*t+k) (by omega);unfold part;rw [Nat.pow_succ];omega
theorem xy{B:Nat→Nat}(hB: ∀j,j<64→B j<256): ∀(i t:Nat),i≤64→fill B i t=if 4*t+4≤i then part B t 4 else if 4*t<i then part B t (i - 4*t)else 0
 | 0,t,_=>by
  rw [if_neg (by omega),if_neg (by omega)];rfl
 | i+1,t,hi=>by
  unfold fill;split
  ·rename_i ht;subst ht;have ih:=xy hB i (i/4) (by omega);have hi4:i=4*(i/4)+(i - 4*(i/4)):=by omega
   have hk:i - 4*(i/4)<4:=by omega
   generalize hq:i/4=q at*;obtain⟨k,dg⟩: ∃k,k=i - 4*q:=⟨_,rfl⟩;have Y4:fill B i q=part B q k:=by
    rw [ih,if_neg (by omega)];split
    ·rw [dg]
    ·have:k=0:=by omega
     rw [this];rfl
   have hp:=K9 hB (show q<16 by omega) k (by omega);have hb:=hB i (by omega);have ae5:(256:Nat)^k≤256^3:=Nat.pow_le_pow_right (by decide) (by omega);rw [Y4,Nat.mod_eq_of_lt (by omega),show part B q k*256=2^8*part B q k by omega,←Nat.two_pow_add_eq_or_of_lt (by omega)];have hpk:2^8*part B q k+B i=part B q (k+1):=by
    rw [part,show 4*q+k=i by omega];omega
   rw [hpk];by_cases h4:4*q+4≤i+1
   ·rw [if_pos h4,show k+1=4 by omega]
   ·rw [if_neg h4,if_pos (by omega),show i+1 - 4*q=k+1 by omega]
  ·rename_i ht;rw [xy hB i t (by omega)];by_cases h4:4*t+4≤i
   ·rw [if_pos h4,if_pos (by omega)]
   ·have h5: ¬4*t<i:=by omega
    rw [if_neg h4,if_neg h5,if_neg (by omega),if_neg (by omega)]
theorem Ql{B:Nat→Nat}(hB: ∀j,j<64→B j<256)(t:Nat):fill B 64 t=gF B 0 t:=by
 rw [xy hB 64 t (Nat.le_refl _)];unfold gF;by_cases ht:t<16
 ·rw [if_pos ht,if_pos (by omega)];simp only [part,word,Nat.add_zero,Nat.zero_mul,Nat.zero_add]
 ·rw [if_neg ht,if_neg (by omega),if_neg (by omega)]
end Go.RX.Sh
