/- Four devices. -/
import Derived.Test.YtphemenngjkfbaaM43
open Go.IntKind renaming wrap → ae
open Go.Proofs.Try renaming prog → agQ
open Int renaming toNat → ag
open List renaming append → agw, eq_nil_of_length_eq_zero → agU, getD_cons_succ → agY, getD_cons_zero → ah, getElem?_eq_getElem → ag6, mem_map → ag9, mem_range → agJ
open List.cons renaming injEq → agO
namespace Go.RX.Do
open Go.RX Go.Proofs Go.Cp Go.RX.Cs Go.RX.Ct Go.RX.Cu Go.RX.Cy Go.RX.Cz Go.RX.Da Go.RX.Dc Go.RX.Dd Go.RX.Df Go.RX.Dg Go.RX.Di Go.RX.Dj Go.RX.Dk Go.RX.Dl Go.RX.Dm Go.RX.Dn
set_option maxRecDepth 100000
noncomputable def num(c:Nat):Nat:=@dite _ (∃l:LI,l.length=16∧bG l=c) (Classical.propDecidable _) (fun h=>(h.choose.getD 1 0).toNat+256*(h.choose.getD 2 0).toNat) fun _=>0
theorem Qm(A:Nat→Int):num (bD A)=(A 1).toNat+256*(A 2).toNat:=by
 have h: ∃l:LI,l.length=16∧bG l=bD A:=⟨aN A 0 16,jE _ _ _,rfl⟩;unfold num;rw [dif_pos h];have e:h.choose=aN A 0 16:=jw (by rw [h.choose_spec.1,jE]) h.choose_spec.2;rw [e,sA (by decide),sA (by decide)]
theorem j7{ve:V1}{b5 b6 b7 b8:Nat}{bb:Nat→Option Nat}{pr:Nat→Option LI}{done:Nat→Nat→Bool}{ev:List (Fe LI)}{rc:Nat→List (Rc×Nat)}{B B':Nat}(h:B≤B'):aB [oK ve b5 b6 b7 b8 bb pr done ev rc B] [oK ve b5 b6 b7 b8 bb pr done ev rc B']:=
 aB.uy fun x=>aB.trans (aB.eQ (qu ve b5 b6 b7 b8 bb pr done ev rc B x.1 x.2)) (aB.trans (aB.cons (Qc h) (aB.cons (aB.refl _) (aB.cons (aB.refl _) (aB.cons (aB.refl _) (aB.cons (aB.refl _) (fJ h (fJ h (fJ h (fJ h (aB.refl [])))))))))) (xr (br:=x.1) (ra:=x.2)))
variable {F:Nat→LI→LI→Nat→Nat→LI} {H:LI→LI} {z:FB} {vf ve:V1} {s:Sy LI} {T B:Nat}
theorem Th{P Q:Sy LI→Prop}{f:Nat}{args:List Value}{pre:List HP}{T':Nat}(h:au agQ f args pre (Then z P T))(hT:T≤T')(hQ: ∀s,P s→Q s):au agQ f args pre (Then z Q T'):=
 h.post fun _ _ ⟨h1,s',fI,fE,h2,h3⟩=>⟨four z fI fE s' T',h3▸aB.cons (aB.refl _) (aB.cons (aB.refl _) (aB.cons (j7 hT) (aB.refl _))),h1,s',fI,fE,hQ _ h2,rfl⟩
theorem DY(i:Nat):After s s i (gG (s.ms i)):=⟨⟨rfl,rfl,by funext j;simp only [gG,bP];split<;>simp_all,by simp [gG],rfl,rfl⟩,by simp [gG],by simp [gG,h_]⟩
theorem Y5(a b:Nat):aF .rem .i64 (a:Int) (b:Int)=((a%b:Nat):Int):=rfl
theorem Ww(a:Nat):aF .rem .u8 (a:Int) 4=((a%4:Nat):Int):=rfl
theorem Ti(a:Nat):aF .rem .u16 (a:Int) 100=((a%100:Nat):Int):=rfl
theorem w64{n:Nat}(h:n<2^64):ae .u64 (n:Int)=(n:Int):=by rw [Sh.wrap_u64,Nat.mod_eq_of_lt h]
theorem w16{n:Nat}(h:n+1<65536):ae .u16 ((n:Int)+1)=((n+1:Nat):Int):=by
 have h3: ∀k:Nat,ae .u16 (k:Int)=((k%2^16:Nat):Int):=fun k=>by simp [ae,IntKind.bits,IntKind.signed]
 rw [show(n:Int)+1=((n+1:Nat):Int) by omega,h3,Nat.mod_eq_of_lt h]
theorem hi8(n:Nat):ae .u8 (aF .shr .u16 (n:Int) 8)=((n/256%256:Nat):Int):=by
 rw [show(8:Int)=((8:Nat):Int)from rfl,Sh.zw .u16 n 8 (by decide),Sh.wrap_u8,Nat.shiftRight_eq_div_pow]
theorem lo8(n:Nat):ae .u8 (n:Int)=((n%256:Nat):Int):=Sh.wrap_u8 n
structure Nf (F:Nat→LI→LI→Nat→Nat→LI) (H:LI→LI) (B N D:Nat) (s:Sy LI):Prop where
 g:Cp.Good zK F H num B s
 k:Keys s
 n:s.now≤N
 d:s.dl≤D
theorem E6{A:Nat→Int}{n:Nat}(h: ∀j,j<n→0≤A j∧A j<256):yv (aN A 0 n):=by
 intro v hv;simp only [aN,ag9,agJ]at hv;obtain⟨t,ht,rfl⟩:=hv;simpa using h t ht
set_option maxHeartbeats 1000000 in
theorem JO(hS:xq F H){N D:Nat}(h:Nf F H B N D s)(hN:N<900000000)(hD:D<60000)(hB:B≤700000000)(hT:T≤700000000){A:cI}(hA:fX A s.bW)(k4 k5 k6 k7:Nat)(h6:k6<65536)(h7:k7<256):
  au agQ 60 [.pointer (some ⟨z.b0,0,none⟩),.agg #[.int .u8 (k4:Int),.int .u8 (k5:Int),.int .u16 (k6:Int),.int .u8 (k7:Int)]] (Hl z vf ve s T A) (Then z (Nf F H (B+20) (N+100) (D+1)) (T+16)):=by
 refine E4 ?_;have hk:=h.k;have Wt:=h.n;have Vt:=h.d;have hlen:=h.g.len;have hR:Room s T:=⟨by omega,by omega,by omega⟩;obtain⟨di,hdi⟩: ∃di,di=k5%4:=⟨_,rfl⟩;have hd:di<4:=by omega
 have Ko:=hk.m di hd;have hm:=fun aq=>S9 di hd aq (s.now:Int) (s.dl:Int) 0 (s.bW.length:Int) (k4:Int) (k5:Int) (k6:Int) (k7:Int) (A 0) (A 1) (A 2) (A 3) (A 4) (A 5) (A 6) (A 7) (A 8) (A 9) (A 10) (A 11) vf ve z.b0 (z.bm 0) (z.bm 1) (z.bm 2) (z.bm 3) z.b5 z.b6 z.b7 z.b8 (gC z ve s T) (cJ (z.bm 0) 0 (s.ms 0)) (cJ (z.bm 1) 1 (s.ms 1)) (cJ (z.bm 2) 2 (s.ms 2)) (cJ (z.bm 3) 3 (s.ms 3)) (gC z ve s T)
 simp only [Int.toNat_natCast]at hm;refine hm _ ?_;clear hm;unfold sE;obtain⟨-, -,sd2⟩:=EY hd;have sd3:s4 di (1:Int) 1 0 0=gQ di:=by
  match di,hd with
  | 0,_=>rfl
  | 1,_=>rfl
  | 2,_=>rfl
  | 3,_=>rfl
 have su:=fun v=>PT hd (fun k=>cJ (z.bm k) k (s.ms k)) v
 have sf:=Bs hd (fun k=>cJ (z.bm k) k (s.ms k));simp only [Bs hd z.bm,sd2,sd3,sf,fun v=>(su v).1,fun v=>(su v).2.1,fun v=>(su v).2.2.1,fun v=>(su v).2.2.2,Qb,Wp,Int.toNat_natCast,Ww,Ti,Y5,w16 (show s.dl+1<65536 by omega),hi8,lo8,w64 (show k6%100<2^64 by omega)];intro b9;refine⟨by omega,fun _=>⟨by omega,fun _=>⟨fun _=>True,fun w Fs own=>⟨by omega,own,trivial⟩,fun _=>fun jI=>⟨fun c0=>?_,fun c0=>⟨fun c1=>?_,fun c1=>⟨fun c2=>?_,fun c2=>⟨fun c3=>?_,fun c3=>⟨fun c4=>?_,fun c4=>⟨fun c5=>?_,fun c5=>?_⟩⟩⟩⟩⟩⟩⟩⟩⟩
 ·refine⟨fun k=>k.p.getD 0 (df vf [])=df vf s.bW,fun w Fs own=>⟨df vf s.bW,gB hA w Fs own,rfl⟩,fun p6 Hm=>?_⟩;simp only [ah]at Hm;subst Hm;intro lV;have hdm:=De.Jo (z.bm di) di s.now hd (s.ms di) Ko (fun j=>if j=0 then(k7:Int)else if j=1 then(((s.dl+1)%256:Nat):Int)else if j=2 then(((s.dl+1)/256%256:Nat):Int)else 0) (fun j=>if j=0 then(((s.dl+1)%256:Nat):Int)else if j=1 then 1 else 0);refine⟨_,swap hdm,?_⟩;rintro v hs ⟨v2,v3,v4,r,e',⟨k,rfl,sP⟩,ht,rfl⟩;refine⟨v2,v3,v4,k,_,_,rfl,rfl,fun ck=>?_,fun ck=>?_⟩
  ·obtain⟨_,VI,rfl⟩:=sP.resolve_left fun hn=>hn.1 ck
   obtain⟨s',hg,a1,a⟩:=h.g.sQ (z:=zK) hd VI (c:=bD (fun j=>if j=0 then(k7:Int)else if j=1 then(((s.dl+1)%256:Nat):Int)else if j=2 then(((s.dl+1)/256%256:Nat):Int)else 0)) (by rw [Qm];simp;omega) (aN (fun j=>if j=0 then(((s.dl+1)%256:Nat):Int)else if j=1 then 1 else 0) 0 32);have a2:s'.now=s.now:=a.now;have kJ:nK _:=Hk (i:=di) (now:=s.now) (c:=bD (fun j=>if j=0 then(k7:Int)else if j=1 then(((s.dl+1)%256:Nat):Int)else if j=2 then(((s.dl+1)/256%256:Nat):Int)else 0)) ⟨_,jE _ _ _,E6 (fun j _=>by split<;>(try split)<;>(try split)<;>omega),rfl⟩ (key:=aN (fun j=>if j=0 then(((s.dl+1)%256:Nat):Int)else if j=1 then 1 else 0) 0 32) (E6 fun j _=>by split<;>(try split)<;>omega);refine⟨_,fR hd a kJ ht z.b0 z.b5 z.b6 z.b7 z.b8 T z.bm vf ve v2 v3 v4 (by simp only;omega) (by omega),?_⟩;rintro v hs ⟨rfl,fI,fE,rfl⟩;refine⟨fI,fE,false,df fI s'.bW,gC z fE s' (T+4),rfl,(by rw [a.now,a.dl]),trivial,s',fI,fE,⟨hg,Keys.after (s:={s with dl:=s.dl+1}) ⟨hk.m,hk.s⟩ a kJ,(by rw [a2];omega),(by rw [a1];omega)⟩,?_⟩;simp only [four,Dm.fZ,xw,a.now,a.dl,a.ms,xu];exact aB.cons (aB.refl _) (aB.cons (aB.refl _) (aB.cons (j7 (by omega)) (aB.refl _)))
  ·obtain⟨_,rfl⟩:=sP.resolve_right fun hn=>ck hn.1
   obtain⟨s',ey⟩: ∃s':Sy LI,s'={s with dl:=s.dl+1}:=⟨_,rfl⟩;have a:After {s with dl:=s.dl+1} s' di (gG (s.ms di)):=by rw [ey];exact DY (s:={s with dl:=s.dl+1}) di
   have kJ:nK (gG (s.ms di)):=lT Ko;refine⟨_,au.pre (fR hd a kJ dZ z.b0 z.b5 z.b6 z.b7 z.b8 T z.bm vf ve cC cC cC (by simp only;omega) (by omega)) (aB.trans (aB.sub (List.sublist_append_left [_,_,_,_] [_])) (aB.trans (aB.frame vP [_,_,_,_]) (gW [1,2,3,4,0] (by decide) rfl))),?_⟩;rintro v hs ⟨rfl,fI,fE,rfl⟩;refine⟨fI,fE,false,df fI s'.bW,gC z fE s' (T+4),rfl,(by rw [a.now,a.dl]),trivial,s',fI,fE,⟨ey▸(h.g.dls (Nat.le_succ s.dl)).more (by omega),ey▸⟨hk.m,hk.s⟩,(by rw [ey];simp only;omega),(by rw [ey];simp only;omega)⟩,?_⟩;simp only [four,Dm.fZ,xw,a.now,a.dl,a.ms,xu];exact aB.cons (aB.refl _) (aB.cons (aB.refl _) (aB.cons (j7 (by omega)) (aB.refl _)))
 ·refine⟨fun k=>k.p.getD 0 (df vf [])=df vf s.bW,fun w Fs own=>⟨df vf s.bW,gB hA w Fs own,rfl⟩,fun p6 Hm=>?_⟩;simp only [ah]at Hm;subst Hm;have hdm:=Dd.gk (z.bm di) di s.now hd (s.ms di) Ko hS (fun j=>if j=0 then(((s.dl+1)%256:Nat):Int)else if j=1 then 2 else if j=2 then(((s.dl+1)/256%256:Nat):Int)else 0) (E6 fun j _=>by split<;>(try split)<;>(try split)<;>omega);refine⟨_,swap hdm,?_⟩;rintro v hs ⟨v2,v3,v4,r,e',⟨⟨k,rfl⟩,rfl⟩,ht,rfl⟩;refine⟨v2,v3,v4,k,_,_,rfl,rfl,?_⟩;obtain⟨s',hg,a⟩:=(h.g.dls (Nat.le_succ s.dl)).answer (z:=zK) hd (aN (fun j=>if j=0 then(((s.dl+1)%256:Nat):Int)else if j=1 then 2 else if j=2 then(((s.dl+1)/256%256:Nat):Int)else 0) 0 32);have kJ:=Hj (i:=di) (now:=s.now) Ko hS.ok (key:=aN (fun j=>if j=0 then(((s.dl+1)%256:Nat):Int)else if j=1 then 2 else if j=2 then(((s.dl+1)/256%256:Nat):Int)else 0) 0 32) (E6 fun j _=>by split<;>(try split)<;>(try split)<;>omega);refine⟨_,fR hd a kJ ht z.b0 z.b5 z.b6 z.b7 z.b8 T z.bm vf ve v2 v3 v4 (by simp only;omega) (by omega),?_⟩;rintro v hs ⟨rfl,fI,fE,rfl⟩;refine⟨fI,fE,false,df fI s'.bW,gC z fE s' (T+4),rfl,(by rw [a.now,a.dl]),trivial,s',fI,fE,⟨hg,Keys.after (s:={s with dl:=s.dl+1}) ⟨hk.m,hk.s⟩ a kJ,(by rw [a.now];simp only;omega),(by rw [a.dl];simp only;omega)⟩,?_⟩;simp only [four,Dm.fZ,xw,a.now,a.dl,a.ms,xu];exact aB.cons (aB.refl _) (aB.cons (aB.refl _) (aB.cons (j7 (by omega)) (aB.refl _)))
 ·refine⟨_,swap (Dd.CD (z.bm di) di s.now hd (s.ms di) Ko),?_⟩;rintro v hs ⟨v2,v3,v4,r,e',⟨⟨k,rfl⟩,rfl⟩,ht,rfl⟩;refine⟨v2,v3,v4,k,_,_,rfl,rfl,?_⟩;refine⟨fun k=>k.p.getD 0 (df vf [])=df vf s.bW,fun w Fs own=>⟨df vf s.bW,gB hA w Fs own,rfl⟩,fun p6 Hm=>?_⟩;simp only [ah]at Hm;subst Hm;obtain⟨s',hg,a⟩:=h.g.dW (z:=zK) hd;have kJ:=E2 (i:=di) Ko;refine⟨_,fR hd a kJ ht z.b0 z.b5 z.b6 z.b7 z.b8 T z.bm vf ve v2 v3 v4 (by omega) (by omega),?_⟩;rintro v hs ⟨rfl,fI,fE,rfl⟩;refine⟨fI,fE,false,df fI s'.bW,gC z fE s' (T+4),rfl,(by rw [a.now,a.dl]),trivial,s',fI,fE,⟨hg,hk.after a kJ,(by rw [a.now];omega),(by rw [a.dl];omega)⟩,?_⟩;simp only [four,Dm.fZ,xw,a.now,a.dl,a.ms,xu];exact aB.cons (aB.refl _) (aB.cons (aB.refl _) (aB.cons (j7 (by omega)) (aB.refl _)))
 ·refine⟨_,swap (Dd.Jm (z.bm di) di s.now hd (s.ms di) Ko),?_⟩;rintro v hs ⟨v2,v3,v4,r,e',⟨⟨k,rfl⟩,q,hq,rfl⟩,ht,rfl⟩;refine⟨v2,v3,v4,k,_,_,rfl,rfl,?_⟩;refine⟨fun k=>k.p.getD 0 (df vf [])=df vf s.bW,fun w Fs own=>⟨df vf s.bW,gB hA w Fs own,rfl⟩,fun p6 Hm=>?_⟩;simp only [ah]at Hm;subst Hm;obtain⟨s',hg,a⟩:=h.g.ng (z:=zK) hd hq;have kJ:=Nc (i:=di) Ko q hq.nI;refine⟨_,fR hd a kJ ht z.b0 z.b5 z.b6 z.b7 z.b8 T z.bm vf ve v2 v3 v4 (by omega) (by omega),?_⟩;rintro v hs ⟨rfl,fI,fE,rfl⟩;refine⟨fI,fE,false,df fI s'.bW,gC z fE s' (T+4),rfl,(by rw [a.now,a.dl]),trivial,s',fI,fE,⟨hg,hk.after a kJ,(by rw [a.now];omega),(by rw [a.dl];omega)⟩,?_⟩;simp only [four,Dm.fZ,xw,a.now,a.dl,a.ms,xu];exact aB.cons (aB.refl _) (aB.cons (aB.refl _) (aB.cons (j7 (by omega)) (aB.refl _)))
 ·refine⟨by omega,fun _=>⟨fun c=>⟨by omega,fun _=>⟨by omega,fun _=>⟨by omega,fun _=>?_⟩⟩⟩,fun c=>⟨trivial,s,vf,ve,⟨h.g.more (by omega),hk,by omega,by omega⟩,?_⟩⟩⟩
  ·have hn:k6%s.bW.length<s.bW.length:=Nat.mod_lt _ (by omega);obtain⟨X,hX⟩: ∃X,s.bW[k6%s.bW.length]? =some X:=⟨_,ag6 hn⟩;have Wx:=h.g.inv.rt X (List.mem_of_getElem? hX);refine⟨_,yA (fun s'=>Nf F H (B+20) (N+100) (D+1) s'∧s'.now=s.now∧s'.dl=s.dl) hS hX ⟨Wx.1,Wx.2.1,Wx.2.2.1⟩ hk hR hA fun q hq=>?_,?_⟩
   ·obtain⟨s',hg,a⟩:=(h.g.more (Nat.le_succ B)).come (z:=zK) hX hq;exact⟨s',fun Tj=>⟨⟨hg.more (by omega),Tj,(by rw [a.now];simp only;omega),(by rw [a.dl];simp only;omega)⟩,a.now,a.dl⟩,a⟩
   ·rintro v hs ⟨rfl,s',fI,fE,⟨hh,e1,e2⟩,rfl⟩;refine⟨fI,fE,(s.now:Int),_,_,_,_,_,_,rfl,(by simp only [four,Dm.fZ,e1,e2];rfl),trivial,s',fI,fE,hh,?_⟩;simp only [four,Dm.fZ,e1,e2];exact aB.cons (aB.refl _) (aB.cons (aB.refl _) (aB.cons (j7 (by omega)) (aB.refl _)))
  ·exact aB.cons (aB.refl _) (aB.cons (gB hA) (aB.cons (j7 (by omega)) (aB.refl _)))
 ·refine⟨by omega,fun _=>⟨fun c=>?_,fun c=>⟨trivial,s,vf,ve,⟨h.g.more (by omega),hk,by omega,by omega⟩,aB.cons (aB.refl _) (aB.cons (gB hA) (aB.cons (j7 (by omega)) (aB.refl _)))⟩⟩⟩;have hn:k6%s.bW.length<s.bW.length:=Nat.mod_lt _ (by omega);obtain⟨n,eJ⟩: ∃n,n=k6%s.bW.length:=⟨_,rfl⟩;rw [←eJ]at hn ⊢;obtain⟨X,hX⟩: ∃X,s.bW[n]? =some X:=⟨_,ag6 hn⟩;have e1:ag ((s.bW.length:Int) - ((n:Int)+1))=s.bW.length - (n+1):=by omega
  have e2:ag ((n:Int)+((s.bW.length:Int) - ((n:Int)+1)))=s.bW.length - 1:=by omega
  have e3:ag ((n:Int)+1)=n+1:=by omega
  have e4:ag (((n:Int)+1)*16)=(n+1)*16:=by omega
  have e5:ag (((n:Int)+1)*32)=(n+1)*32:=by omega
  have e6:ag (((s.bW.length:Int) - ((n:Int)+1))*16)=(s.bW.length - (n+1))*16:=by omega
  have e7:ag (((s.bW.length:Int) - ((n:Int)+1))*32)=(s.bW.length - (n+1))*32:=by omega
  simp only [e1,e2,e3,e4,e5,e6,e7]
  iterate 12 refine⟨by omega,fun _=>?_⟩
  refine fun v2=>?_
  have RV:(s.bW.eraseIdx n).length=s.bW.length - 1:=List.length_eraseIdx_of_lt hn;refine⟨trivial,{s with bW:=s.bW.eraseIdx n},v2,ve,⟨(h.g.drop hX).more (by omega),hk.erase n,by simp only;omega,by simp only;omega⟩,aB.cons (aB.refl _) (aB.cons ?_ (aB.cons (j7 (by omega)) (aB.refl _)))⟩;have:=gB (v:=v2) (hA.erase (m:=s.bW.length - (n+1)) hn rfl (B:=fun c=>if c=5 then aG (A 5) (n*16) ((s.bW.length - (n+1))*16) (aJ (A 5) ((n+1)*16))else if c=9 then aG (A 9) (n*32) ((s.bW.length - (n+1))*32) (aJ (A 9) ((n+1)*32))else aG (A c) n (s.bW.length - (n+1)) (aJ (A c) (n+1))) rfl rfl rfl rfl rfl rfl rfl rfl);rw [RV]at this;exact this
 ·refine⟨fun k=>k.p.getD 0 (df vf [])=df vf s.bW,fun w Fs own=>⟨df vf s.bW,gB hA w Fs own,rfl⟩,fun p6 Hm=>?_⟩;simp only [ah]at Hm;subst Hm;refine⟨fun c6=>?_,fun c6=>?_⟩
  ·refine⟨_,yB (d:=k6%100) (fun j s'=>j≤4∧GV zK F H num (B+2*j) j s'∧s'.now=s.now+k6%100∧s'.dl=s.dl) (by omega) hk hR (fun j s' hP=>?_) ⟨by omega,h.g.time _,rfl,rfl⟩ (fun j s' hj hP q hq=>?_),?_⟩
   ·have g1:=EM s'.bW;have g2:=hP.2.1.ym;have g3:=hP.1;unfold Cp.ym at g2;omega
   ·obtain⟨s2,ht,a⟩:=hP.2.1.next (z:=zK) hj hq;exact⟨s2,⟨by omega,ht,a.now.trans hP.2.2.1,a.dl.trans hP.2.2.2⟩,a⟩
   ·rintro v hs ⟨rfl,s',fI,fE,⟨⟨-,ht,e1,e2⟩,Tj⟩,rfl⟩;refine⟨fI,fE,((s.now+k6%100:Nat):Int),_,_,_,_,_,_,rfl,(by simp only [four,Dm.fZ,e1,e2];rfl),trivial,s',fI,fE,⟨ht.good.more (by omega),Tj,by omega,by omega⟩,?_⟩;simp only [four,Dm.fZ,e1,e2];exact aB.refl _
  ·have kJ:nK (gG (s.ms di)):=lT Ko;refine⟨_,au.pre (fR hd (DY di) kJ dZ z.b0 z.b5 z.b6 z.b7 z.b8 T z.bm vf ve cC cC cC (by omega) (by omega)) (aB.trans (aB.frame vP [_,_,_,_]) (gW [1,2,3,4,0] (by decide) rfl)),?_⟩;rintro v hs ⟨rfl,fI,fE,rfl⟩;exact⟨fI,fE,false,df fI s.bW,gC z fE s (T+4),rfl,rfl,trivial,s,fI,fE,⟨h.g.more (by omega),hk,by omega,by omega⟩,aB.cons (aB.refl _) (aB.cons (aB.refl _) (aB.cons (j7 (by omega)) (aB.refl _)))⟩
end Go.RX.Do

namespace Go.RX.Dp
open Go.RX Go.Proofs Go.Cp Go.RX.Cs Go.RX.Ct Go.RX.Cu Go.RX.Cy Go.RX.Cz Go.RX.Da Go.RX.Dc Go.RX.Dd Go.RX.Df Go.RX.Dg Go.RX.Di Go.RX.Dj Go.RX.Dk Go.RX.Dl Go.RX.Dm Go.RX.Dn Go.RX.Do
set_option maxRecDepth 100000
variable {F:Nat→LI→LI→Nat→Nat→LI} {H:LI→LI} {z:FB} {vf ve:V1} {s:Sy LI} {T B:Nat}
structure Calm (F:Nat→LI→LI→Nat→Nat→LI) (H:LI→LI) (b now dl:Nat) (s:Sy LI):Prop where
 g:Cp.Good zK F H num b s
 k:Keys s
 n:s.now=now
 d:s.dl=dl
abbrev aL(A:cI):List (Nat→Int):=[A 0,A 1,A 2,A 3,A 4,A 5,A 6,A 7,A 8,A 9,A 10,A 11]
abbrev pL(z:FB)(ve:V1)(s:Sy LI)(T:Nat):List HP:=gC z ve s T::xw z.bm s.ms
def Qn(z:FB)(P:Sy LI→Prop)(Tb:Nat)(n:Int)(k:Ext):Prop:= ∃(s:Sy LI) (vf ve:V1) (A:cI) (T:Nat),k.v=[vf,ve]∧k.i=[(s.now:Int),(s.bW.length:Int),n]∧k.a=aL A∧k.p=pL z ve s T∧fX A s.bW∧P s∧T≤Tb
theorem DZ(hS:xq F H){b now dl:Nat}(h:Calm F H (b+1) now dl s)(hn:now<900000000)(hb:b<700000000)(hT:T≤700000000){A:cI}(hA:fX A s.bW)(h0:0<s.bW.length):
  au agQ 99 [.pointer (some ⟨z.b0,0,none⟩),.int .i64 0] (gl z.b0 (s.now:Int) (dl:Int) z.bm vf ve z.b5 z.b6 z.b7 z.b8 false::aC true 216 59 vf.v s.bW.length (aT s.bW.length (rG A))::gC z ve s T::xw z.bm s.ms) (Then z (Calm F H b now dl) (T+4)):=by
 obtain⟨X,hX⟩: ∃X,s.bW[0]? =some X:=⟨_,ag6 h0⟩;have Wx:=h.g.inv.rt X (List.mem_of_getElem? hX);have hlen:=h.g.len;have:=yA (z:=z) (vf:=vf) (ve:=ve) (T:=T) (Calm F H b now dl) hS hX ⟨Wx.1,Wx.2.1,Wx.2.2.1⟩ h.k ⟨by have:=h.n;omega,by omega,by omega⟩ hA fun q hq=>by
  obtain⟨s',hg,a⟩:=h.g.come (z:=zK) hX hq;exact⟨s',fun Tj=>⟨hg,Tj,a.now.trans h.n,a.dl.trans h.d⟩,a⟩
 simp only [Hl,Dm.fZ,h.d]at this;exact this
theorem Ng(_:xq F H){b now dl:Nat}(h:Calm F H b now dl s)(hn:now<900000000)(hb:b<700000000)(hT:T≤700000000){A:cI}(hA:fX A s.bW)(_:s.bW=[]):
  au agQ 100 [.pointer (some ⟨z.b0,0,none⟩),.int .u64 5] (gl z.b0 (s.now:Int) (dl:Int) z.bm vf ve z.b5 z.b6 z.b7 z.b8 false::aC true 216 59 vf.v s.bW.length (aT s.bW.length (rG A))::gC z ve s T::xw z.bm s.ms) (Then z (Calm F H (b+8) (now+5) dl) (T+16)):=by
 have hlen:=h.g.len;refine au.pre (Ik:=gl z.b0 (s.now:Int) (dl:Int) z.bm vf ve z.b5 z.b6 z.b7 z.b8 false::df vf s.bW::gC z ve s T::xw z.bm s.ms) ?_ (aB.cons (aB.refl _) (aB.cons (gB hA) (aB.refl _)));have:=yB (z:=z) (vf:=vf) (ve:=ve) (T:=T) (d:=5) (fun j s'=>j≤4∧GV zK F H num (b+2*j) j s'∧s'.now=now+5∧s'.dl=dl) (by omega) h.k ⟨by have:=h.n;omega,by omega,by omega⟩ (fun j s' hP=>by
  have g1:=EM s'.bW;have g2:=hP.2.1.ym;have g3:=hP.1;unfold Cp.ym at g2;omega) ⟨by omega,h.g.time 5,by simp only;rw [h.n],h.d⟩ fun j s' hj hP q hq=>by
   obtain⟨s2,ht,a⟩:=hP.2.1.next (z:=zK) hj hq;exact⟨s2,⟨by omega,ht,a.now.trans hP.2.2.1,a.dl.trans hP.2.2.2⟩,a⟩
 simp only [four,Dm.fZ,h.d]at this;exact Th this (Nat.le_refl _) fun s' ⟨⟨_,ht,e1,e2⟩,Tj⟩=>⟨ht.good,Tj,e1,e2⟩
abbrev Qo(l:List (Mg LI))(k:Ext):Prop:= ∃A:cI,k.i=[(l.length:Int)]∧k.a=aL A∧fX A l
theorem bare{vf:V1}{l:List (Mg LI)}{w:World}{Fs:List HP}(h:aU ([df vf l]++Fs) w): ∃A:cI,fX A l∧aU ([aC true 216 59 vf.v l.length (aT l.length (rG A))]++Fs) w:=by
 obtain⟨A,hA⟩:=aU.uy (R:=Fs) h;exact⟨A.1,A.2,hA⟩
abbrev E7(s:Sy LI)(T:Nat):Prop:=Cn zK num s s.eG s.lY∧T≤600000000
set_option maxHeartbeats 1000000 in
theorem JP(hS:xq F H){N D:Nat}(h:Nf F H B N D s)(hN:N<700000000)(hB:B≤10000)(hT:T≤500000000){A:cI}(hA:fX A s.bW):
  au agQ 61 [.pointer (some ⟨z.b0,0,none⟩)] (Hl z vf ve s T A) fun rv hs=>rv= .bool true∧∃(s':Sy LI) (fI fE:V1) (T':Nat),E7 s' T'∧hs=four z fI fE s' T':=by
 refine au.post (p:=fun rv hs=>rv= .bool true∧∃(s':Sy LI) (fI fE:V1) (T':Nat),E7 s' T'∧aB hs (four z fI fE s' T')) ?_ fun _ _ ⟨h1,s',fI,fE,T',h2,h3⟩=>⟨_,h3,h1,s',fI,fE,T',h2,rfl⟩
 have Wt:=h.n;refine S_ _ (s.now:Int) (s.dl:Int) 0 (s.bW.length:Int) 0 (A 0) (A 1) (A 2) (A 3) (A 4) (A 5) (A 6) (A 7) (A 8) (A 9) (A 10) (A 11) vf ve z.b0 (z.bm 0) (z.bm 1) (z.bm 2) (z.bm 3) z.b5 z.b6 z.b7 z.b8 (gC z ve s T) (cJ (z.bm 0) 0 (s.ms 0)) (cJ (z.bm 1) 1 (s.ms 1)) (cJ (z.bm 2) 2 (s.ms 2)) (cJ (z.bm 3) 3 (s.ms 3)) (gC z ve s T) ?_;unfold K7;obtain⟨dl,Vt⟩: ∃dl,s.dl=dl:=⟨_,rfl⟩;obtain⟨T0,hT0⟩: ∃T0,s.now=T0:=⟨_,rfl⟩;obtain⟨T1,hT1⟩: ∃T1,T=T1:=⟨_,rfl⟩;have hc:Calm F H B T0 dl s:=⟨h.g,h.k,hT0,Vt⟩;rw [Vt];refine⟨fun k=> ∃q:Nat,q≤40∧Qn z (Calm F H (B+8*q) (T0+5*q) dl) (T1+90000*q) (q:Int) k,fun k=>(40 - k.i.getD 2 0).toNat,⟨_,_,_,_,_,_,_,_,_,_,_,_,_,_,_,_,_,_,_,_,_,_,rfl,rfl,rfl,rfl,rfl,rfl,rfl,fun _ _=>rfl,fun _ _=>rfl,fun _ _=>rfl,fun _ _=>rfl,fun _ _=>rfl,fun _ _=>rfl,fun _ _=>rfl,fun _ _=>rfl,fun _ _=>rfl,fun _ _=>rfl,fun _ _=>rfl,fun _ _=>rfl,fun _ _=>rfl,rfl,rfl,rfl,rfl,rfl,0,by omega,s,vf,ve,A,T,rfl,rfl,rfl,rfl,hA,hc,by omega⟩,?_⟩;have afc:T0≤N:=by omega
 have afd:T1≤500000000:=by omega
 clear hA hc hT Wt Vt hT0 hT1 h;rintro v2 v3 x5 x6 x7 dT dU eS eD dX dY dQ mA mB mo nE nB p6 p7 p8 p9 nC ⟨q,hq,s,vf,ve,A,T,hv,hi,ha,hp,hA,hc,hT⟩;simp only [agO,and_true]at hv hi ha hp;obtain⟨rfl,rfl⟩:=hv;obtain⟨rfl,rfl,rfl⟩:=hi;obtain⟨rfl,rfl,rfl,rfl,rfl,rfl,rfl,rfl,rfl,rfl,rfl,rfl⟩:=ha;obtain⟨rfl,rfl,rfl,rfl,rfl⟩:=hp;obtain⟨b,hb⟩: ∃b,b=B+8*q:=⟨_,rfl⟩;obtain⟨now,hnw⟩: ∃now,now=T0+5*q:=⟨_,rfl⟩;obtain⟨Tb,hTb⟩: ∃Tb,Tb=T1+90000*q:=⟨_,rfl⟩;rw [←hb,←hnw]at hc;rw [←hTb]at hT;refine⟨fun cZ=>?_,fun uJ=>?_⟩
 ·refine⟨fun k=> ∃n:Nat,n≤b∧Qn z (Calm F H (b - n) now dl) (Tb+4*n) (n:Int) k,fun k=>(20001 - k.i.getD 2 0).toNat,⟨_,_,_,_,_,_,_,_,_,_,_,_,_,_,_,_,_,_,_,_,_,_,rfl,rfl,rfl,rfl,rfl,rfl,fun _ _=>rfl,fun _ _=>rfl,fun _ _=>rfl,fun _ _=>rfl,fun _ _=>rfl,fun _ _=>rfl,fun _ _=>rfl,fun _ _=>rfl,fun _ _=>rfl,fun _ _=>rfl,fun _ _=>rfl,fun _ _=>rfl,fun _ _=>rfl,rfl,rfl,rfl,rfl,rfl,0,Nat.zero_le _,s,_,_,A,T,rfl,rfl,rfl,rfl,hA,hc,hT⟩,?_⟩;clear hA hc hT;rintro v4 v5 x8 x9 aO kq ku kv kx kK kL ky kz jL kA kB kC qB uo wu qH ru ⟨n,hn,s,vf,ve,A,T,hv,hi,ha,hp,hA,hc,hT⟩;simp only [agO,and_true]at hv hi ha hp;obtain⟨rfl,rfl⟩:=hv;obtain⟨rfl,rfl,rfl⟩:=hi;obtain⟨rfl,rfl,rfl,rfl,rfl,rfl,rfl,rfl,rfl,rfl,rfl,rfl⟩:=ha;obtain⟨rfl,rfl,rfl,rfl,rfl⟩:=hp;refine⟨by omega,fun _=>⟨fun c0=>⟨fun c1=>absurd c1 (by omega),fun c1=>?_⟩,fun c0=>?_⟩⟩
  ·have hlen:=hc.g.len;obtain⟨b',Ob⟩: ∃b',b - n=b'+1:=⟨b - n - 1,by omega⟩;rw [Ob]at hc;refine⟨_,DZ hS hc (by omega) (by omega) (by omega) hA (by omega),?_⟩;rintro v hs ⟨rfl,s',fI,fE,NJ,rfl⟩;refine⟨fI,fE,(s'.now:Int),_,_,_,_,_,_,rfl,(by simp only [four,Dm.fZ,NJ.d];rfl),?_⟩;refine⟨Qo s'.bW,fun w Fs own=>?_,?_⟩
   ·obtain⟨A',Qp,Qq⟩:=bare own;exact⟨(s'.bW.length:Int),A' 0,A' 1,A' 2,A' 3,A' 4,A' 5,A' 6,A' 7,A' 8,A' 9,A' 10,A' 11,Qq,A',rfl,rfl,Qp⟩
   rintro aM im lU lB lh kE ll jd kM kN kg kj ln ⟨A',hi,ha,Qp⟩;simp only [agO,and_true]at hi ha;subst hi;obtain⟨rfl,rfl,rfl,rfl,rfl,rfl,rfl,rfl,rfl,rfl,rfl,rfl⟩:=ha;refine⟨by omega,fun _=>⟨by omega,fun _=>⟨_,_,_,_,_,_,_,_,_,_,_,_,_,_,_,_,_,_,_,_,_,_,rfl,rfl,rfl,rfl,rfl,rfl,fun _ _=>rfl,fun _ _=>rfl,fun _ _=>rfl,fun _ _=>rfl,fun _ _=>rfl,fun _ _=>rfl,fun _ _=>rfl,fun _ _=>rfl,fun _ _=>rfl,fun _ _=>rfl,fun _ _=>rfl,fun _ _=>rfl,fun _ _=>rfl,rfl,rfl,rfl,rfl,rfl,⟨n+1,by omega,s',fI,fE,A',T+4,rfl,(by simp only [agO,and_true,true_and];omega),rfl,rfl,Qp,(by rw [show b - (n+1)=b' by omega];exact NJ),by omega⟩,?_⟩⟩⟩;simp only [ah,agY];omega
  have abX:s.bW=[]:=agU (by omega);refine⟨_,Ng hS hc (by omega) (by omega) (by omega) hA abX,?_⟩;rintro v hs ⟨rfl,s',fI,fE,NJ,rfl⟩;refine⟨fI,fE,(s'.now:Int),_,_,_,_,_,_,rfl,(by simp only [four,Dm.fZ,NJ.d];rfl),?_⟩;refine⟨Qo s'.bW,fun w Fs own=>?_,?_⟩
  ·obtain⟨A',Qp,Qq⟩:=bare own;exact⟨(s'.bW.length:Int),A' 0,A' 1,A' 2,A' 3,A' 4,A' 5,A' 6,A' 7,A' 8,A' 9,A' 10,A' 11,Qq,A',rfl,rfl,Qp⟩
  rintro aM im lU lB lh kE ll jd kM kN kg kj ln ⟨A',hi,ha,Qp⟩;simp only [agO,and_true]at hi ha;subst hi;obtain⟨rfl,rfl,rfl,rfl,rfl,rfl,rfl,rfl,rfl,rfl,rfl,rfl⟩:=ha;refine⟨by omega,fun _=>⟨by omega,fun _=>⟨_,_,_,_,_,_,_,_,_,_,_,_,_,_,_,_,_,_,_,_,_,_,rfl,rfl,rfl,rfl,rfl,rfl,fun _ _=>rfl,fun _ _=>rfl,fun _ _=>rfl,fun _ _=>rfl,fun _ _=>rfl,fun _ _=>rfl,fun _ _=>rfl,fun _ _=>rfl,fun _ _=>rfl,fun _ _=>rfl,fun _ _=>rfl,fun _ _=>rfl,fun _ _=>rfl,rfl,rfl,rfl,rfl,rfl,⟨q+1,by omega,s',fI,fE,A',T+16,rfl,(by simp only [agO,and_true,true_and];omega),rfl,rfl,Qp,⟨NJ.g.more (by omega),NJ.k,NJ.n.trans (by omega),NJ.d⟩,by omega⟩,?_⟩⟩⟩;simp only [ah,agY];omega
 ·refine⟨fun k=> ∃n:Nat,n≤b∧Qn z (Calm F H (b - n) now dl) (Tb+4*n) (n:Int) k,fun k=>(20001 - k.i.getD 2 0).toNat,⟨_,_,_,_,_,_,_,_,_,_,_,_,_,_,_,_,_,_,_,_,_,_,rfl,rfl,rfl,rfl,rfl,rfl,fun _ _=>rfl,fun _ _=>rfl,fun _ _=>rfl,fun _ _=>rfl,fun _ _=>rfl,fun _ _=>rfl,fun _ _=>rfl,fun _ _=>rfl,fun _ _=>rfl,fun _ _=>rfl,fun _ _=>rfl,fun _ _=>rfl,fun _ _=>rfl,rfl,rfl,rfl,rfl,rfl,0,Nat.zero_le _,s,_,_,A,T,rfl,rfl,rfl,rfl,hA,hc,hT⟩,?_⟩;clear hA hc hT;rintro v4 v5 x8 x9 aO kq ku kv kx kK kL ky kz jL kA kB kC qB uo wu qH ru ⟨n,hn,s,vf,ve,A,T,hv,hi,ha,hp,hA,hc,hT⟩;simp only [agO,and_true]at hv hi ha hp;obtain⟨rfl,rfl⟩:=hv;obtain⟨rfl,rfl,rfl⟩:=hi;obtain⟨rfl,rfl,rfl,rfl,rfl,rfl,rfl,rfl,rfl,rfl,rfl,rfl⟩:=ha;obtain⟨rfl,rfl,rfl,rfl,rfl⟩:=hp;refine⟨by omega,fun _=>⟨fun c0=>⟨fun c1=>absurd c1 (by omega),fun c1=>?_⟩,fun c0=>?_⟩⟩
  ·have hlen:=hc.g.len;obtain⟨b',Ob⟩: ∃b',b - n=b'+1:=⟨b - n - 1,by omega⟩;rw [Ob]at hc;refine⟨_,DZ hS hc (by omega) (by omega) (by omega) hA (by omega),?_⟩;rintro v hs ⟨rfl,s',fI,fE,NJ,rfl⟩;refine⟨fI,fE,(s'.now:Int),_,_,_,_,_,_,rfl,(by simp only [four,Dm.fZ,NJ.d];rfl),?_⟩;refine⟨Qo s'.bW,fun w Fs own=>?_,?_⟩
   ·obtain⟨A',Qp,Qq⟩:=bare own;exact⟨(s'.bW.length:Int),A' 0,A' 1,A' 2,A' 3,A' 4,A' 5,A' 6,A' 7,A' 8,A' 9,A' 10,A' 11,Qq,A',rfl,rfl,Qp⟩
   rintro aM im lU lB lh kE ll jd kM kN kg kj ln ⟨A',hi,ha,Qp⟩;simp only [agO,and_true]at hi ha;subst hi;obtain⟨rfl,rfl,rfl,rfl,rfl,rfl,rfl,rfl,rfl,rfl,rfl,rfl⟩:=ha;refine⟨by omega,fun _=>⟨by omega,fun _=>⟨_,_,_,_,_,_,_,_,_,_,_,_,_,_,_,_,_,_,_,_,_,_,rfl,rfl,rfl,rfl,rfl,rfl,fun _ _=>rfl,fun _ _=>rfl,fun _ _=>rfl,fun _ _=>rfl,fun _ _=>rfl,fun _ _=>rfl,fun _ _=>rfl,fun _ _=>rfl,fun _ _=>rfl,fun _ _=>rfl,fun _ _=>rfl,fun _ _=>rfl,fun _ _=>rfl,rfl,rfl,rfl,rfl,rfl,⟨n+1,by omega,s',fI,fE,A',T+4,rfl,(by simp only [agO,and_true,true_and];omega),rfl,rfl,Qp,(by rw [show b - (n+1)=b' by omega];exact NJ),by omega⟩,?_⟩⟩⟩;simp only [ah,agY];omega
  refine⟨rfl,s,v4,v5,T,⟨hc.g.MQ,by omega⟩,?_⟩;simp only [four,Dm.fZ,hc.d];exact aB.cons (aB.refl _) (aB.cons (gB hA) (aB.refl _))
end Go.RX.Dp

namespace Go.RX.Dr
open Go.RX Go.Proofs Go.Cp Go.RX.Cs Go.RX.Ct Go.RX.Cu Go.RX.Cy Go.RX.Cz Go.RX.Da Go.RX.Dc Go.RX.Dd Go.RX.Df Go.RX.Dg Go.RX.Di Go.RX.Dj Go.RX.Dk Go.RX.Dl Go.RX.Dm Go.RX.Dn Go.RX.Do Go.RX.Dp
set_option maxRecDepth 100000
def start:Sy LI:=⟨1,fun _=>Dh.idle,[],0,fun _=>none,fun _=>none,fun _ _=>false,fun _=>none,fun _=>zK,fun _ _=>none,[],fun _=>[]⟩
variable {F:Nat→LI→LI→Nat→Nat→LI} {H:LI→LI}
theorem JQ:Nf F H 0 1 0 start:=⟨Good.start 1 _ (fun _ _=>rfl) _,⟨fun _ _=>KM.idle rfl,fun x hx=>by simp [start]at hx⟩,Nat.le_refl _,Nat.le_refl _⟩
theorem map_nil(b:Nat):aB [bK b [.u8,.u8] true false ([.slice none 0 0]) (fun i=>BZ [] i) (wA [] ([.slice none 0 0]))] [oJ b fun _=>0]:=by
 have e1:(fun i=>BZ [] i)=fun i:Nat=> !((0:Int)==0):=by funext i;rfl
 have e2:wA [] ([.slice none 0 0])=cc [dC 1 (fun j=>iR (mn (fun _=>0) j))]:=by
  funext i;have:mn (fun _=>0) i=0:=by
   unfold mn
   repeat' split
   all_goals rfl
  show [Value.slice none 0 0]=[dC 1 (fun j=>iR (mn (fun _=>0) j))].flatMap fun c=>c i
  simp [dC,this,FK]
 rw [e1,e2];exact aB.ex (F:=fun Hs:Nat→Int=>bK b [.u8,.u8] true false ([.slice none 0 0]) (fun i=> !(Hs i==0)) (cc [dC 1 (fun j=>iR (mn (fun _=>0) j))])) (fun _=>0) rfl
theorem vU(b:Nat):aB [bK b oP true false ([.int .u8 0]) (fun i=> !((fun _=>(0:Int)) i==0)) (cc [ax .u8 1 (fun _=>0)])] [iP b fun _=>false]:=
 aB.ex (F:=fun x:{x:(Nat→Int)×(Nat→Int) // qh x.1 (fun _=>false)}=>bK b oP true false ([.int .u8 0]) (fun i=> !(x.1.1 i==0)) (cc [ax .u8 1 x.1.2])) ⟨(fun _=>0,fun _=>0),fun c=>by simp⟩ rfl
theorem Qr(b:Nat):aB [bK b oP true true ([.int .u8 0,.int .u8 0]) (fun i=> !((fun _=>(0:Int)) i==0)) (cc [ax .u8 1 (fun _=>0),ax .u8 1 (fun _=>0)])] [uz b fun _=>none]:=
 aB.ex (F:=fun x:{x:(Nat→Int)×(Nat→Int)×(Nat→Int) // rI x.1 x.2.1 x.2.2 (fun _=>none)}=>bK b oP true true ([.int .u8 0,.int .u8 0]) (fun i=> !(x.1.1 i==0)) (cc [ax .u8 1 x.1.2.1,ax .u8 1 x.1.2.2])) ⟨(fun _=>0,fun _=>0,fun _=>0),⟨fun c=>by simp,fun c=>by simp,fun c=>by simp,fun c=>by simp⟩⟩ rfl
theorem Wy(b:Nat):aB [bK b oP true true (agw (ak .u8 32 (fun _=>0)) ([])) (fun i=> !((fun _=>(0:Int)) i==0)) (cc [ax .u8 32 (fun _=>0)])] [Jr b fun _=>none]:=
 aB.ex (F:=fun x:{x:(Nat→Int)×(Nat→Int) // Hb x.1 x.2 (fun _=>none)}=>bK b oP true true (agw (ak .u8 32 (fun _=>0)) ([])) (fun i=> !(x.1.1 i==0)) (cc [ax .u8 32 x.1.2])) ⟨(fun _=>0,fun _=>0),⟨fun c=>by simp,fun c k hk=>by cases hk⟩⟩ rfl
theorem Tk:aB [] [df cC []]:=aB.trans (aB.rA 216 59) (gB (v:=cC) (l:=[]) (A:=fun _ _=>0) ⟨rfl,fun _ hj=>absurd hj (Nat.not_lt_zero _)⟩)
theorem Tm:aB [] [rH cC [] 0]:=aB.trans (aB.rA 76 56) (aB.ex (F:=fun A:{A:cI // CF A []∧([]:List (Fe LI)).length≤0}=>aC true 76 56 cC.v ([]:List (Fe LI)).length (aT ([]:List (Fe LI)).length (ER A.1))) ⟨fun _ _=>0,⟨rfl,fun _ hj=>absurd hj (Nat.not_lt_zero _)⟩,Nat.le_refl _⟩ rfl)
theorem vV{i:Nat}:aB [] [dF (oR 0) i [] 0]:=aB.trans (aB.rA 85 22) (aB.ex (F:=fun A:{A:cI // mz i A []∧([]:List (Rc×Nat)).length≤0}=>aC true 85 22 (oR 0).v ([]:List (Rc×Nat)).length (aT ([]:List (Rc×Nat)).length (yZ A.1))) ⟨fun _ _=>0,⟨rfl,fun _ hj=>absurd hj (Nat.not_lt_zero _)⟩,Nat.le_refl _⟩ rfl)
theorem _root_.Go.RX.aB.more{a:HP}{c d:List HP}(h:aB [] [a])(k:aB c d):aB c (a::d):=aB.trans (aB.frame h c) (aB.cons (aB.refl _) k)
theorem Hp:au agQ 59 [] [] fun rv hs=> ∃(z:FB) (vf ve:V1),rv= .pointer (some ⟨z.b0,0,none⟩)∧hs=four z vf ve start 0:=by
 refine au.post (p:=fun rv hs=> ∃(z:FB) (vf ve:V1),rv= .pointer (some ⟨z.b0,0,none⟩)∧aB hs (four z vf ve start 0)) ?_ fun _ _ ⟨z,vf,ve,h1,h2⟩=>⟨_,h2,z,vf,ve,h1,rfl⟩
 refine Dq.P4 _ ?_;unfold Dq.Hf;intro b0 b1 b2 b3 b4 b5 b6;refine⟨_,Dh.gH 0,?_⟩;rintro v hs ⟨m0,rfl,rfl⟩;refine⟨m0,_,rfl,rfl,fun _=>True,⟨fun _ _ _=>⟨_,rfl,rfl,trivial⟩,fun _ _ _=>⟨_,rfl,rfl,trivial⟩⟩,fun r0 _=>fun _ _=>⟨_,Dh.gH 1,?_⟩⟩;rintro v hs ⟨m1,rfl,rfl⟩;refine⟨m1,_,rfl,rfl,fun _=>True,⟨fun _ _ _=>⟨_,rfl,rfl,trivial⟩,fun _ _ _=>⟨_,rfl,rfl,trivial⟩⟩,fun r1 _=>fun _ _=>⟨_,Dh.gH 2,?_⟩⟩;rintro v hs ⟨m2,rfl,rfl⟩;refine⟨m2,_,rfl,rfl,fun _=>True,⟨fun _ _ _=>⟨_,rfl,rfl,trivial⟩,fun _ _ _=>⟨_,rfl,rfl,trivial⟩⟩,fun r2 _=>fun _ _=>⟨_,Dh.gH 3,?_⟩⟩;rintro v hs ⟨m3,rfl,rfl⟩;refine⟨m3,_,rfl,rfl,fun _=>True,⟨fun _ _ _=>⟨_,rfl,rfl,trivial⟩,fun _ _ _=>⟨_,rfl,rfl,trivial⟩⟩,fun r3 _=>?_⟩;refine⟨⟨b4,b0,b1,b2,b3,fun k=>s4 k m0 m1 m2 m3⟩,cC,cC,rfl,?_⟩
 let br:Nat→Nat:=fun k=>s4 k r0 r1 r2 r3
 have Y6:aB [bK b0 oP true true ([.int .u8 0,.int .u8 0]) (fun i=> !((fun _=>(0:Int)) i==0)) (cc [ax .u8 1 (fun _=>0),ax .u8 1 (fun _=>0)]),bK b1 oP true true (agw (ak .u8 32 (fun _=>0)) ([])) (fun i=> !((fun _=>(0:Int)) i==0)) (cc [ax .u8 32 (fun _=>0)]),qi b2 br,bK b3 [.u8,.u8] true false ([.slice none 0 0]) (fun i=>BZ [] i) (wA [] ([.slice none 0 0])),
   bK r0 oP true false ([.int .u8 0]) (fun i=> !((fun _=>(0:Int)) i==0)) (cc [ax .u8 1 (fun _=>0)]),bK r1 oP true false ([.int .u8 0]) (fun i=> !((fun _=>(0:Int)) i==0)) (cc [ax .u8 1 (fun _=>0)]),bK r2 oP true false ([.int .u8 0]) (fun i=> !((fun _=>(0:Int)) i==0)) (cc [ax .u8 1 (fun _=>0)]),bK r3 oP true false ([.int .u8 0]) (fun i=> !((fun _=>(0:Int)) i==0)) (cc [ax .u8 1 (fun _=>0)])] [oK cC b0 b1 b2 b3 (fun _=>none) (fun _=>none) (fun _ _=>false) [] (fun _=>[]) 0]:=
  aB.trans (aB.more Tm (aB.cons (Qr b0) (aB.cons (Wy b1) (aB.cons (aB.refl _) (aB.cons (map_nil b3) (aB.cons (vU r0) (aB.more vV (aB.cons (vU r1) (aB.more vV (aB.cons (vU r2) (aB.more vV (aB.cons (vU r3) vV)))))))))))) (xr (ve:=cC) (b5:=b0) (b6:=b1) (b7:=b2) (b8:=b3) (bb:=fun _=>none) (pr:=fun _=>none) (done:=fun _ _=>false) (ev:=[]) (rc:=fun _=>[]) (B:=0) (br:=br) (ra:=fun _=>0))
 refine aB.trans (gW (b:=[ao b4 true ([.int .u64 1,.pointer (some ⟨m0,0,none⟩),.pointer (some ⟨m1,0,none⟩),.pointer (some ⟨m2,0,none⟩),.pointer (some ⟨m3,0,none⟩),.slice none 0 0,.int .u16 0,.map (some b0),.map (some b1),.slice none 0 0,.map (some b2),.map (some b3),.bool false])]++
  ([bK b0 oP true true ([.int .u8 0,.int .u8 0]) (fun i=> !((fun _=>(0:Int)) i==0)) (cc [ax .u8 1 (fun _=>0),ax .u8 1 (fun _=>0)]),bK b1 oP true true (agw (ak .u8 32 (fun _=>0)) ([])) (fun i=> !((fun _=>(0:Int)) i==0)) (cc [ax .u8 32 (fun _=>0)]),qi b2 br,bK b3 [.u8,.u8] true false ([.slice none 0 0]) (fun i=>BZ [] i) (wA [] ([.slice none 0 0])),
   bK r0 oP true false ([.int .u8 0]) (fun i=> !((fun _=>(0:Int)) i==0)) (cc [ax .u8 1 (fun _=>0)]),bK r1 oP true false ([.int .u8 0]) (fun i=> !((fun _=>(0:Int)) i==0)) (cc [ax .u8 1 (fun _=>0)]),bK r2 oP true false ([.int .u8 0]) (fun i=> !((fun _=>(0:Int)) i==0)) (cc [ax .u8 1 (fun _=>0)]),bK r3 oP true false ([.int .u8 0]) (fun i=> !((fun _=>(0:Int)) i==0)) (cc [ax .u8 1 (fun _=>0)])]++
  [cJ m0 0 Dh.idle,cJ m1 1 Dh.idle,cJ m2 2 Dh.idle,cJ m3 3 Dh.idle])) [4,0,1,2,3,6,8,10,12,5,7,9,11] (by decide) rfl) ?_
 exact aB.cons (aB.refl _) (aB.more Tk (aB.both Y6 (aB.refl [cJ m0 0 Dh.idle,cJ m1 1 Dh.idle,cJ m2 2 Dh.idle,cJ m3 3 Dh.idle])))
end Go.RX.Dr
