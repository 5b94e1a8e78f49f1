/- Four devices. -/
import Derived.Test.YtphemenngjkfbaaM39
open Go.IntKind renaming wrap → ae
open Go.Proofs.Try renaming prog → adY
open Int renaming toNat → ag
open List renaming append → adH, eq_nil_of_length_eq_zero → adZ, getD_cons_succ → aeg, getD_cons_zero → ah, getElem?_eq_getElem → ad9, mem_map → aeu, mem_range → adU
namespace Go.RX.Do
open Go.RX Go.Proofs Go.Cp Go.RX.Cs Go.RX.Ct Go.RX.Cu Go.RX.Cy Go.RX.Cz Go.RX.Da Go.RX.Dc Go.RX.Dd Go.RX.Df Go.RX.Dg Go.RX.Di Go.RX.Dj Go.RX.Dk Go.RX.Dl Go.RX.Dm Go.RX.Dn
set_option maxRecDepth 100000
noncomputable def num(c:Nat):Nat:=@dite _ (∃l:LI,l.length=16∧bM l=c) (Classical.propDecidable _) (fun h=>(h.choose.getD 1 0).toNat+256*(h.choose.getD 2 0).toNat) fun _=>0
theorem NY(A:Nat→Int):num (a_ A)=(A 1).toNat+256*(A 2).toNat:=by
 have h: ∃l:LI,l.length=16∧bM l=a_ A:=⟨aJ A 0 16,f_ _ _ _,rfl⟩;unfold num;rw [dif_pos h];have e:h.choose=aJ A 0 16:=ln (by rw [h.choose_spec.1,f_]) h.choose_spec.2;rw [e,mU (by decide),mU (by decide)]
theorem jr{ve:V1}{b5 b6 b7 b8:Nat}{bI:Nat→Option Nat}{pr:Nat→Option LI}{done:Nat→Nat→Bool}{B B':Nat}(h:B≤B'):aD [nA ve b5 b6 b7 b8 bI pr done B] [nA ve b5 b6 b7 b8 bI pr done B']:=
 aD.zj fun x=>aD.trans (aD.jl (rO ve b5 b6 b7 b8 bI pr done B x.1 x.2)) (aD.trans (aD.cons (NO h) (aD.cons (aD.refl _) (aD.cons (aD.refl _) (aD.cons (aD.refl _) (aD.cons (aD.refl _) (fi h (fi h (fi h (fi h (aD.refl [])))))))))) (u7 (br:=x.1) (ra:=x.2)))
variable {F:Nat→LI→LI→Nat→Nat→LI} {H:LI→LI} {z:FB} {vf ve:V1} {s:Sy LI} {T B:Nat}
theorem QL{P Q:Sy LI→Prop}{f:Nat}{args:List Value}{pre:List HP}{T':Nat}(h:aq adY f args pre (E3 z P T))(hT:T≤T')(hQ: ∀s,P s→Q s):aq adY f args pre (E3 z Q T'):=
 h.post fun _ _ ⟨h1,s',fx,fy,h2,h3⟩=>⟨four z fx fy s' T',h3▸aD.cons (aD.refl _) (aD.cons (aD.refl _) (aD.cons (jr hT) (aD.refl _))),h1,s',fx,fy,hQ _ h2,rfl⟩
theorem Bp(i:Nat):kv s s i (gY (s.ms i)):=⟨rfl,rfl,by funext j;simp only [gY,cV];split<;>simp_all,by simp [gY],rfl,rfl⟩
theorem VS(a b:Nat):ax .rem .i64 (a:Int) (b:Int)=((a%b:Nat):Int):=rfl
theorem Tu(a:Nat):ax .rem .u8 (a:Int) 4=((a%4:Nat):Int):=rfl
theorem QM(a:Nat):ax .rem .u16 (a:Int) 100=((a%100:Nat):Int):=rfl
theorem w64{n:Nat}(h:n<2^64):ae .u64 (n:Int)=(n:Int):=by rw [Sh.wrap_u64,Nat.mod_eq_of_lt h]
theorem w16{n:Nat}(h:n+1<65536):ae .u16 ((n:Int)+1)=((n+1:Nat):Int):=by
 have h3: ∀k:Nat,ae .u16 (k:Int)=((k%2^16:Nat):Int):=fun k=>by simp [ae,IntKind.bits,IntKind.signed]
 rw [show(n:Int)+1=((n+1:Nat):Int) by omega,h3,Nat.mod_eq_of_lt h]
theorem hi8(n:Nat):ae .u8 (ax .shr .u16 (n:Int) 8)=((n/256%256:Nat):Int):=by
 rw [show(8:Int)=((8:Nat):Int)from rfl,Sh.xH .u16 n 8 (by decide),Sh.wrap_u8,Nat.shiftRight_eq_div_pow]
theorem lo8(n:Nat):ae .u8 (n:Int)=((n%256:Nat):Int):=Sh.wrap_u8 n
structure K2 (F:Nat→LI→LI→Nat→Nat→LI) (H:LI→LI) (B N D:Nat) (s:Sy LI):Prop where
 g:Cp.Good F H num B s
 k:Keys s
 n:s.now≤N
 d:s.dl≤D
theorem Cm{A:Nat→Int}{n:Nat}(h: ∀j,j<n→0≤A j∧A j<256):wa (aJ A 0 n):=by
 intro v hv;simp only [aJ,aeu,adU]at hv;obtain⟨t,ht,rfl⟩:=hv;simpa using h t ht
set_option maxHeartbeats 1000000 in
theorem Hn(hS:u6 F H){N D:Nat}(h:K2 F H B N D s)(hN:N<900000000)(hD:D<60000)(hB:B≤700000000)(hT:T≤700000000){A:dx}(hA:fw A s.bS)(k4 k5 k6 k7:Nat)(h6:k6<65536)(h7:k7<256):
  aq adY 60 [.pointer (some ⟨z.b0,0,none⟩),.agg #[.int .u8 (k4:Int),.int .u8 (k5:Int),.int .u16 (k6:Int),.int .u8 (k7:Int)]] (E2 z vf ve s T A) (E3 z (K2 F H (B+20) (N+100) (D+1)) (T+16)):=by
 refine Cj ?_;have hk:=h.k;have Ts:=h.n;have SJ:=h.d;have hlen:=h.g.len;have hR:Room s T:=⟨by omega,by omega,by omega⟩;obtain⟨di,hdi⟩: ∃di,di=k5%4:=⟨_,rfl⟩;have hd:di<4:=by omega
 have Ig:=hk.m di hd;have hm:=fun ao=>P4 di hd ao (s.now:Int) (s.dl:Int) 0 (s.bS.length:Int) (k4:Int) (k5:Int) (k6:Int) (k7:Int) (A 0) (A 1) (A 2) (A 3) (A 4) (A 5) (A 6) (A 7) (A 8) (A 9) (A 10) (A 11) vf ve z.b0 (z.bm 0) (z.bm 1) (z.bm 2) (z.bm 3) z.b5 z.b6 z.b7 z.b8 (gH z ve s T) (cq (z.bm 0) 0 (s.ms 0)) (cq (z.bm 1) 1 (s.ms 1)) (cq (z.bm 2) 2 (s.ms 2)) (cq (z.bm 3) 3 (s.ms 3)) (gH z ve s T)
 simp only [Int.toNat_natCast]at hm;refine hm _ ?_;clear hm;unfold qR;obtain⟨-, -,Za⟩:=Cf hd;have sd3:s4 di (1:Int) 1 0 0=k9 di:=by
  match di,hd with
  | 0,_=>rfl
  | 1,_=>rfl
  | 2,_=>rfl
  | 3,_=>rfl
 have su:=fun v=>NN hd (fun k=>cq (z.bm k) k (s.ms k)) v
 have sf:=zm hd (fun k=>cq (z.bm k) k (s.ms k));simp only [zm hd z.bm,Za,sd3,sf,fun v=>(su v).1,fun v=>(su v).2.1,fun v=>(su v).2.2.1,fun v=>(su v).2.2.2,Uk,Ul,Int.toNat_natCast,Tu,QM,VS,w16 (show s.dl+1<65536 by omega),hi8,lo8,w64 (show k6%100<2^64 by omega)];intro b9;refine⟨by omega,fun _=>⟨by omega,fun _=>⟨fun _=>True,fun w Fs own=>⟨by omega,own,trivial⟩,fun _=>fun fh=>⟨fun c0=>?_,fun c0=>⟨fun c1=>?_,fun c1=>⟨fun c2=>?_,fun c2=>⟨fun c3=>?_,fun c3=>⟨fun c4=>?_,fun c4=>⟨fun c5=>?_,fun c5=>?_⟩⟩⟩⟩⟩⟩⟩⟩⟩
 ·refine⟨fun k=>k.p.getD 0 (cR vf [])=cR vf s.bS,fun w Fs own=>⟨cR vf s.bS,fW hA w Fs own,rfl⟩,fun p6 E4=>?_⟩;simp only [ah]at E4;subst E4;intro kA;have Zo:=De.Hh (z.bm di) di s.now hd (s.ms di) Ig (fun j=>if j=0 then(k7:Int)else if j=1 then(((s.dl+1)%256:Nat):Int)else if j=2 then(((s.dl+1)/256%256:Nat):Int)else 0) (fun j=>if j=0 then(((s.dl+1)%256:Nat):Int)else if j=1 then 1 else 0);refine⟨_,swap Zo,?_⟩;rintro v hs ⟨v2,v3,v4,r,e',⟨k,rfl,Ap⟩,ht,rfl⟩;refine⟨v2,v3,v4,k,_,_,rfl,rfl,fun ck=>?_,fun ck=>?_⟩
  ·obtain⟨_,S_,rfl⟩:=Ap.resolve_left fun hn=>hn.1 ck
   obtain⟨s',hg,a1,a2,a3,a4,a5,a6,a7⟩:=h.g.Ta (z:=zK) hd S_ (c:=a_ (fun j=>if j=0 then(k7:Int)else if j=1 then(((s.dl+1)%256:Nat):Int)else if j=2 then(((s.dl+1)/256%256:Nat):Int)else 0)) (by rw [NY];simp;omega) (aJ (fun j=>if j=0 then(((s.dl+1)%256:Nat):Int)else if j=1 then 1 else 0) 0 32);have a:kv {s with dl:=s.dl+1} s' di _:=⟨a2,a1,a3,a4,by rw [a5,a6];rfl,by rw [a7];rfl⟩;have jG:mD _:=E1 (i:=di) (now:=s.now) (c:=a_ (fun j=>if j=0 then(k7:Int)else if j=1 then(((s.dl+1)%256:Nat):Int)else if j=2 then(((s.dl+1)/256%256:Nat):Int)else 0)) ⟨_,f_ _ _ _,Cm (fun j _=>by split<;>(try split)<;>(try split)<;>omega),rfl⟩ (key:=aJ (fun j=>if j=0 then(((s.dl+1)%256:Nat):Int)else if j=1 then 1 else 0) 0 32) (Cm fun j _=>by split<;>(try split)<;>omega);refine⟨_,fp hd a jG ht z.b0 z.b5 z.b6 z.b7 z.b8 T z.bm vf ve v2 v3 v4 (by simp only;omega) (by omega),?_⟩;rintro v hs ⟨rfl,fx,fy,rfl⟩;refine⟨fx,fy,false,cR fx s'.bS,gH z fy s' (T+4),rfl,(by rw [a.now,a.dl]),trivial,s',fx,fy,⟨hg,Keys.after (s:={s with dl:=s.dl+1}) ⟨hk.m,hk.s⟩ a jG,(by rw [a2];omega),(by rw [a1];omega)⟩,?_⟩;simp only [four,Dm.iD,vd,a.now,a.dl,a.ms,u_];exact aD.cons (aD.refl _) (aD.cons (aD.refl _) (aD.cons (jr (by omega)) (aD.refl _)))
  ·obtain⟨_,rfl⟩:=Ap.resolve_right fun hn=>ck hn.1
   obtain⟨s',gN⟩: ∃s':Sy LI,s'={s with dl:=s.dl+1}:=⟨_,rfl⟩;have a:kv {s with dl:=s.dl+1} s' di (gY (s.ms di)):=by rw [gN];exact Bp (s:={s with dl:=s.dl+1}) di
   have jG:mD (gY (s.ms di)):=lZ Ig;refine⟨_,aq.pre (fp hd a jG dE z.b0 z.b5 z.b6 z.b7 z.b8 T z.bm vf ve cg cg cg (by simp only;omega) (by omega)) (aD.trans (aD.sub (List.sublist_append_left [_,_,_,_] [_])) (aD.trans (aD.frame tW [_,_,_,_]) (iX [1,2,3,4,0] (by decide) rfl))),?_⟩;rintro v hs ⟨rfl,fx,fy,rfl⟩;refine⟨fx,fy,false,cR fx s'.bS,gH z fy s' (T+4),rfl,(by rw [a.now,a.dl]),trivial,s',fx,fy,⟨gN▸(h.g.dls (Nat.le_succ s.dl)).more (by omega),gN▸⟨hk.m,hk.s⟩,(by rw [gN];simp only;omega),(by rw [gN];simp only;omega)⟩,?_⟩;simp only [four,Dm.iD,vd,a.now,a.dl,a.ms,u_];exact aD.cons (aD.refl _) (aD.cons (aD.refl _) (aD.cons (jr (by omega)) (aD.refl _)))
 ·refine⟨fun k=>k.p.getD 0 (cR vf [])=cR vf s.bS,fun w Fs own=>⟨cR vf s.bS,fW hA w Fs own,rfl⟩,fun p6 E4=>?_⟩;simp only [ah]at E4;subst E4;have Zo:=Dd.fL (z.bm di) di s.now hd (s.ms di) Ig hS (fun j=>if j=0 then(((s.dl+1)%256:Nat):Int)else if j=1 then 2 else if j=2 then(((s.dl+1)/256%256:Nat):Int)else 0) (Cm fun j _=>by split<;>(try split)<;>(try split)<;>omega);refine⟨_,swap Zo,?_⟩;rintro v hs ⟨v2,v3,v4,r,e',⟨⟨k,rfl⟩,rfl⟩,ht,rfl⟩;refine⟨v2,v3,v4,k,_,_,rfl,rfl,?_⟩;obtain⟨s',hg,a⟩:=(h.g.dls (Nat.le_succ s.dl)).answer (z:=zK) hd (aJ (fun j=>if j=0 then(((s.dl+1)%256:Nat):Int)else if j=1 then 2 else if j=2 then(((s.dl+1)/256%256:Nat):Int)else 0) 0 32);have jG:=E0 (i:=di) (now:=s.now) Ig hS.ok (key:=aJ (fun j=>if j=0 then(((s.dl+1)%256:Nat):Int)else if j=1 then 2 else if j=2 then(((s.dl+1)/256%256:Nat):Int)else 0) 0 32) (Cm fun j _=>by split<;>(try split)<;>(try split)<;>omega);refine⟨_,fp hd a jG ht z.b0 z.b5 z.b6 z.b7 z.b8 T z.bm vf ve v2 v3 v4 (by simp only;omega) (by omega),?_⟩;rintro v hs ⟨rfl,fx,fy,rfl⟩;refine⟨fx,fy,false,cR fx s'.bS,gH z fy s' (T+4),rfl,(by rw [a.now,a.dl]),trivial,s',fx,fy,⟨hg,Keys.after (s:={s with dl:=s.dl+1}) ⟨hk.m,hk.s⟩ a jG,(by rw [a.now];simp only;omega),(by rw [a.dl];simp only;omega)⟩,?_⟩;simp only [four,Dm.iD,vd,a.now,a.dl,a.ms,u_];exact aD.cons (aD.refl _) (aD.cons (aD.refl _) (aD.cons (jr (by omega)) (aD.refl _)))
 ·refine⟨_,swap (Dd.AD (z.bm di) di s.now hd (s.ms di) Ig),?_⟩;rintro v hs ⟨v2,v3,v4,r,e',⟨⟨k,rfl⟩,rfl⟩,ht,rfl⟩;refine⟨v2,v3,v4,k,_,_,rfl,rfl,?_⟩;refine⟨fun k=>k.p.getD 0 (cR vf [])=cR vf s.bS,fun w Fs own=>⟨cR vf s.bS,fW hA w Fs own,rfl⟩,fun p6 E4=>?_⟩;simp only [ah]at E4;subst E4;obtain⟨s',hg,a⟩:=h.g.eQ (z:=zK) hd;have jG:=Ch (i:=di) Ig;refine⟨_,fp hd a jG ht z.b0 z.b5 z.b6 z.b7 z.b8 T z.bm vf ve v2 v3 v4 (by omega) (by omega),?_⟩;rintro v hs ⟨rfl,fx,fy,rfl⟩;refine⟨fx,fy,false,cR fx s'.bS,gH z fy s' (T+4),rfl,(by rw [a.now,a.dl]),trivial,s',fx,fy,⟨hg,hk.after a jG,(by rw [a.now];omega),(by rw [a.dl];omega)⟩,?_⟩;simp only [four,Dm.iD,vd,a.now,a.dl,a.ms,u_];exact aD.cons (aD.refl _) (aD.cons (aD.refl _) (aD.cons (jr (by omega)) (aD.refl _)))
 ·refine⟨_,swap (Dd.Hf (z.bm di) di s.now hd (s.ms di) Ig),?_⟩;rintro v hs ⟨v2,v3,v4,r,e',⟨⟨k,rfl⟩,q,hq,rfl⟩,ht,rfl⟩;refine⟨v2,v3,v4,k,_,_,rfl,rfl,?_⟩;refine⟨fun k=>k.p.getD 0 (cR vf [])=cR vf s.bS,fun w Fs own=>⟨cR vf s.bS,fW hA w Fs own,rfl⟩,fun p6 E4=>?_⟩;simp only [ah]at E4;subst E4;obtain⟨s',hg,a⟩:=h.g.px (z:=zK) hd hq;have jG:=KZ (i:=di) Ig q hq.mC;refine⟨_,fp hd a jG ht z.b0 z.b5 z.b6 z.b7 z.b8 T z.bm vf ve v2 v3 v4 (by omega) (by omega),?_⟩;rintro v hs ⟨rfl,fx,fy,rfl⟩;refine⟨fx,fy,false,cR fx s'.bS,gH z fy s' (T+4),rfl,(by rw [a.now,a.dl]),trivial,s',fx,fy,⟨hg,hk.after a jG,(by rw [a.now];omega),(by rw [a.dl];omega)⟩,?_⟩;simp only [four,Dm.iD,vd,a.now,a.dl,a.ms,u_];exact aD.cons (aD.refl _) (aD.cons (aD.refl _) (aD.cons (jr (by omega)) (aD.refl _)))
 ·refine⟨by omega,fun _=>⟨fun c=>⟨by omega,fun _=>⟨by omega,fun _=>⟨by omega,fun _=>?_⟩⟩⟩,fun c=>⟨trivial,s,vf,ve,⟨h.g.more (by omega),hk,by omega,by omega⟩,?_⟩⟩⟩
  ·have hn:k6%s.bS.length<s.bS.length:=Nat.mod_lt _ (by omega);obtain⟨X,hX⟩: ∃X,s.bS[k6%s.bS.length]? =some X:=⟨_,ad9 hn⟩;have Tv:=h.g.inv.rt X (List.mem_of_getElem? hX);refine⟨_,wi (fun s'=>K2 F H (B+20) (N+100) (D+1) s'∧s'.now=s.now∧s'.dl=s.dl) hS hX ⟨Tv.1,Tv.2.1,Tv.2.2.1⟩ hk hR hA fun q hq=>?_,?_⟩
   ·obtain⟨s',hg,a⟩:=(h.g.more (Nat.le_succ B)).Nf (z:=zK) hX hq;exact⟨s',fun QN=>⟨⟨hg.more (by omega),QN,(by rw [a.now];simp only;omega),(by rw [a.dl];simp only;omega)⟩,a.now,a.dl⟩,a⟩
   ·rintro v hs ⟨rfl,s',fx,fy,⟨hh,e1,e2⟩,rfl⟩;refine⟨fx,fy,(s.now:Int),_,_,_,_,_,_,rfl,(by simp only [four,Dm.iD,e1,e2];rfl),trivial,s',fx,fy,hh,?_⟩;simp only [four,Dm.iD,e1,e2];exact aD.cons (aD.refl _) (aD.cons (aD.refl _) (aD.cons (jr (by omega)) (aD.refl _)))
  ·exact aD.cons (aD.refl _) (aD.cons (fW hA) (aD.cons (jr (by omega)) (aD.refl _)))
 ·refine⟨by omega,fun _=>⟨fun c=>?_,fun c=>⟨trivial,s,vf,ve,⟨h.g.more (by omega),hk,by omega,by omega⟩,aD.cons (aD.refl _) (aD.cons (fW hA) (aD.cons (jr (by omega)) (aD.refl _)))⟩⟩⟩;have hn:k6%s.bS.length<s.bS.length:=Nat.mod_lt _ (by omega);obtain⟨n,fc⟩: ∃n,n=k6%s.bS.length:=⟨_,rfl⟩;rw [←fc]at hn ⊢;obtain⟨X,hX⟩: ∃X,s.bS[n]? =some X:=⟨_,ad9 hn⟩;have e1:ag ((s.bS.length:Int) - ((n:Int)+1))=s.bS.length - (n+1):=by omega
  have e2:ag ((n:Int)+((s.bS.length:Int) - ((n:Int)+1)))=s.bS.length - 1:=by omega
  have e3:ag ((n:Int)+1)=n+1:=by omega
  have e4:ag (((n:Int)+1)*16)=(n+1)*16:=by omega
  have e5:ag (((n:Int)+1)*32)=(n+1)*32:=by omega
  have e6:ag (((s.bS.length:Int) - ((n:Int)+1))*16)=(s.bS.length - (n+1))*16:=by omega
  have e7:ag (((s.bS.length:Int) - ((n:Int)+1))*32)=(s.bS.length - (n+1))*32:=by omega
  simp only [e1,e2,e3,e4,e5,e6,e7]
  iterate 12 refine⟨by omega,fun _=>?_⟩
  refine fun v2=>?_
  have Py:(s.bS.eraseIdx n).length=s.bS.length - 1:=List.length_eraseIdx_of_lt hn;refine⟨trivial,{s with bS:=s.bS.eraseIdx n},v2,ve,⟨(h.g.drop hX).more (by omega),hk.erase n,by simp only;omega,by simp only;omega⟩,aD.cons (aD.refl _) (aD.cons ?_ (aD.cons (jr (by omega)) (aD.refl _)))⟩;have:=fW (v:=v2) (hA.erase (m:=s.bS.length - (n+1)) hn rfl (B:=fun c=>if c=5 then aW (A 5) (n*16) ((s.bS.length - (n+1))*16) (aP (A 5) ((n+1)*16))else if c=9 then aW (A 9) (n*32) ((s.bS.length - (n+1))*32) (aP (A 9) ((n+1)*32))else aW (A c) n (s.bS.length - (n+1)) (aP (A c) (n+1))) rfl rfl rfl rfl rfl rfl rfl);rw [Py]at this;exact this
 ·refine⟨fun k=>k.p.getD 0 (cR vf [])=cR vf s.bS,fun w Fs own=>⟨cR vf s.bS,fW hA w Fs own,rfl⟩,fun p6 E4=>?_⟩;simp only [ah]at E4;subst E4;refine⟨fun c6=>?_,fun c6=>?_⟩
  ·refine⟨_,wj (d:=k6%100) (fun j s'=>j≤4∧EE F H num (B+2*j) j s'∧s'.now=s.now+k6%100∧s'.dl=s.dl) (by omega) hk hR (fun j s' hP=>?_) ⟨by omega,h.g.time _,rfl,rfl⟩ (fun j s' hj hP q hq=>?_),?_⟩
   ·have g1:=B9 s'.bS;have g2:=hP.2.1.vZ;have g3:=hP.1;unfold Cp.vZ at g2;omega
   ·obtain⟨s2,ht,a⟩:=hP.2.1.next (z:=zK) hj hq;exact⟨s2,⟨by omega,ht,a.now.trans hP.2.2.1,a.dl.trans hP.2.2.2⟩,a⟩
   ·rintro v hs ⟨rfl,s',fx,fy,⟨⟨-,ht,e1,e2⟩,QN⟩,rfl⟩;refine⟨fx,fy,((s.now+k6%100:Nat):Int),_,_,_,_,_,_,rfl,(by simp only [four,Dm.iD,e1,e2];rfl),trivial,s',fx,fy,⟨ht.Vy.more (by omega),QN,by omega,by omega⟩,?_⟩;simp only [four,Dm.iD,e1,e2];exact aD.refl _
  ·have jG:mD (gY (s.ms di)):=lZ Ig;refine⟨_,aq.pre (fp hd (Bp di) jG dE z.b0 z.b5 z.b6 z.b7 z.b8 T z.bm vf ve cg cg cg (by omega) (by omega)) (aD.trans (aD.frame tW [_,_,_,_]) (iX [1,2,3,4,0] (by decide) rfl)),?_⟩;rintro v hs ⟨rfl,fx,fy,rfl⟩;exact⟨fx,fy,false,cR fx s.bS,gH z fy s (T+4),rfl,rfl,trivial,s,fx,fy,⟨h.g.more (by omega),hk,by omega,by omega⟩,aD.cons (aD.refl _) (aD.cons (aD.refl _) (aD.cons (jr (by omega)) (aD.refl _)))⟩
end Go.RX.Do

namespace Go.RX.Dp
open Go.RX Go.Proofs Go.Cp Go.RX.Cs Go.RX.Ct Go.RX.Cu Go.RX.Cy Go.RX.Cz Go.RX.Da Go.RX.Dc Go.RX.Dd Go.RX.Df Go.RX.Dg Go.RX.Di Go.RX.Dj Go.RX.Dk Go.RX.Dl Go.RX.Dm Go.RX.Dn Go.RX.Do
set_option maxRecDepth 100000
variable {F:Nat→LI→LI→Nat→Nat→LI} {H:LI→LI} {z:FB} {vf ve:V1} {s:Sy LI} {T B:Nat}
structure Calm (F:Nat→LI→LI→Nat→Nat→LI) (H:LI→LI) (T0 b now dl:Nat) (s:Sy LI):Prop where
 g:Cp.Good F H num b s
 k:Keys s
 l:Live T0 s
 n:s.now=now
 d:s.dl=dl
abbrev aL(A:dx):List (Nat→Int):=[A 0,A 1,A 2,A 3,A 4,A 5,A 6,A 7,A 8,A 9,A 10,A 11]
abbrev pL(z:FB)(ve:V1)(s:Sy LI)(T:Nat):List HP:=gH z ve s T::vd z.bm s.ms
def NZ(z:FB)(P:Sy LI→Prop)(Tb:Nat)(n:Int)(k:Ext):Prop:= ∃(s:Sy LI) (vf ve:V1) (A:dx) (T:Nat),k.v=[vf,ve]∧k.i=[(s.now:Int),(s.bS.length:Int),n]∧k.a=aL A∧k.p=pL z ve s T∧fw A s.bS∧P s∧T≤Tb
theorem Bq(hS:u6 F H){T0 b now dl:Nat}(h:Calm F H T0 (b+1) now dl s)(hn:now<900000000)(hb:b<700000000)(hT:T≤700000000){A:dx}(hA:fw A s.bS)(h0:0<s.bS.length):
  aq adY 99 [.pointer (some ⟨z.b0,0,none⟩),.int .i64 0] (fN z.b0 (s.now:Int) (dl:Int) z.bm vf ve z.b5 z.b6 z.b7 z.b8 false::aB true 216 59 vf.v s.bS.length (aH s.bS.length (qo A))::gH z ve s T::vd z.bm s.ms) (E3 z (Calm F H T0 b now dl) (T+4)):=by
 obtain⟨X,hX⟩: ∃X,s.bS[0]? =some X:=⟨_,ad9 h0⟩;have Tv:=h.g.inv.rt X (List.mem_of_getElem? hX);have hlen:=h.g.len;have:=wi (z:=z) (vf:=vf) (ve:=ve) (T:=T) (Calm F H T0 b now dl) hS hX ⟨Tv.1,Tv.2.1,Tv.2.2.1⟩ h.k ⟨by have:=h.n;omega,by omega,by omega⟩ hA fun q hq=>by
  obtain⟨s',hg,a⟩:=h.g.Nf (z:=zK) hX hq;exact⟨s',fun QN=>⟨hg,QN,h.l.take h.g.inv h.g.yg hX a,a.now.trans h.n,a.dl.trans h.d⟩,a⟩
 simp only [E2,Dm.iD,h.d]at this;exact this
theorem K3(_:u6 F H){T0 b now dl:Nat}(h:Calm F H T0 b now dl s)(hn:now<900000000)(hb:b<700000000)(hT:T≤700000000){A:dx}(hA:fw A s.bS)(h0:s.bS=[]):
  aq adY 100 [.pointer (some ⟨z.b0,0,none⟩),.int .u64 5] (fN z.b0 (s.now:Int) (dl:Int) z.bm vf ve z.b5 z.b6 z.b7 z.b8 false::aB true 216 59 vf.v s.bS.length (aH s.bS.length (qo A))::gH z ve s T::vd z.bm s.ms) (E3 z (Calm F H T0 (b+8) (now+5) dl) (T+16)):=by
 have hlen:=h.g.len;refine aq.pre (Gm:=fN z.b0 (s.now:Int) (dl:Int) z.bm vf ve z.b5 z.b6 z.b7 z.b8 false::cR vf s.bS::gH z ve s T::vd z.bm s.ms) ?_ (aD.cons (aD.refl _) (aD.cons (fW hA) (aD.refl _)));have:=wj (z:=z) (vf:=vf) (ve:=ve) (T:=T) (d:=5) (fun j s'=>j≤4∧EE F H num (b+2*j) j s'∧Live T0 s'∧s'.now=now+5∧s'.dl=dl) (by omega) h.k ⟨by have:=h.n;omega,by omega,by omega⟩ (fun j s' hP=>by
  have g1:=B9 s'.bS;have g2:=hP.2.1.vZ;have g3:=hP.1;unfold Cp.vZ at g2;omega) ⟨by omega,h.g.time 5,h.l.time h.g.inv h.g.yg h0 (Nat.le_refl 5),by simp only;rw [h.n],h.d⟩ fun j s' hj hP q hq=>by
   obtain⟨s2,ht,a⟩:=hP.2.1.next (z:=zK) hj hq;exact⟨s2,⟨by omega,ht,hP.2.2.1.tick hP.2.1.inv hj a,a.now.trans hP.2.2.2.1,a.dl.trans hP.2.2.2.2⟩,a⟩
 simp only [four,Dm.iD,h.d]at this;exact QL this (Nat.le_refl _) fun s' ⟨⟨_,ht,hl,e1,e2⟩,QN⟩=>⟨ht.Vy,QN,hl,e1,e2⟩
abbrev N0(l:List (Mg LI))(k:Ext):Prop:= ∃A:dx,k.i=[(l.length:Int)]∧k.a=aL A∧fw A l
theorem bare{vf:V1}{l:List (Mg LI)}{w:World}{Fs:List HP}(h:bd ([cR vf l]++Fs) w): ∃A:dx,fw A l∧bd ([aB true 216 59 vf.v l.length (aH l.length (qo A))]++Fs) w:=by
 obtain⟨A,hA⟩:=bd.zj (R:=Fs) h;exact⟨A.1,A.2,hA⟩
structure N1 (s:Sy LI):Prop where
 p: ∀i,i<4→(s.ms i).ph=0∨((s.ms i).ph=4∧(s.ms i).peer<4∧(s.ms (s.ms i).peer).ph=4∧(s.ms (s.ms i).peer).c=(s.ms i).c∧(s.ms (s.ms i).peer).peer=i∧(s.ms (s.ms i).peer).dg=(s.ms i).dg)
 o: ∀i,i<4→(s.ms i).ph=4→(s.ms i).peer/2≠i/2
set_option maxHeartbeats 1000000 in
theorem Ho(hS:u6 F H){N D:Nat}(h:K2 F H B N D s)(hN:N<700000000)(hB:B≤10000)(hT:T≤500000000){A:dx}(hA:fw A s.bS):
  aq adY 61 [.pointer (some ⟨z.b0,0,none⟩)] (E2 z vf ve s T A) fun rv hs=>rv= .bool true∧∃(s':Sy LI) (fx fy:V1) (T':Nat),N1 s'∧hs=four z fx fy s' T':=by
 refine aq.post (p:=fun rv hs=>rv= .bool true∧∃(s':Sy LI) (fx fy:V1) (T':Nat),N1 s'∧aD hs (four z fx fy s' T')) ?_ fun _ _ ⟨h1,s',fx,fy,T',h2,h3⟩=>⟨_,h3,h1,s',fx,fy,T',h2,rfl⟩
 have Ts:=h.n;refine Pj _ (s.now:Int) (s.dl:Int) 0 (s.bS.length:Int) 0 (A 0) (A 1) (A 2) (A 3) (A 4) (A 5) (A 6) (A 7) (A 8) (A 9) (A 10) (A 11) vf ve z.b0 (z.bm 0) (z.bm 1) (z.bm 2) (z.bm 3) z.b5 z.b6 z.b7 z.b8 (gH z ve s T) (cq (z.bm 0) 0 (s.ms 0)) (cq (z.bm 1) 1 (s.ms 1)) (cq (z.bm 2) 2 (s.ms 2)) (cq (z.bm 3) 3 (s.ms 3)) (gH z ve s T) ?_;unfold HZ;obtain⟨dl,SJ⟩: ∃dl,s.dl=dl:=⟨_,rfl⟩;obtain⟨T0,Zp⟩: ∃T0,s.now=T0:=⟨_,rfl⟩;obtain⟨T1,hT1⟩: ∃T1,T=T1:=⟨_,rfl⟩;have hc:Calm F H T0 B T0 dl s:=⟨h.g,h.k,Zp▸Live.begin h.g.yg h.g.inv,Zp,SJ⟩;rw [SJ];refine⟨fun k=> ∃q:Nat,q≤40∧NZ z (Calm F H T0 (B+8*q) (T0+5*q) dl) (T1+90000*q) (q:Int) k,fun k=>(40 - k.i.getD 2 0).toNat,⟨_,_,_,_,_,_,_,_,_,_,_,_,_,_,_,_,_,_,_,_,_,_,rfl,rfl,rfl,rfl,rfl,rfl,rfl,fun _ _=>rfl,fun _ _=>rfl,fun _ _=>rfl,fun _ _=>rfl,fun _ _=>rfl,fun _ _=>rfl,fun _ _=>rfl,fun _ _=>rfl,fun _ _=>rfl,fun _ _=>rfl,fun _ _=>rfl,fun _ _=>rfl,fun _ _=>rfl,rfl,rfl,rfl,rfl,rfl,0,by omega,s,vf,ve,A,T,rfl,rfl,rfl,rfl,hA,hc,by omega⟩,?_⟩;have aci:T0≤N:=by omega
 have acj:T1≤500000000:=by omega
 clear hA hc hT Ts SJ Zp hT1 h;rintro v2 v3 x5 x6 x7 gL gM mc l7 jz ob mf od oe og qz qA p6 p7 p8 p9 l6 ⟨q,hq,s,vf,ve,A,T,hv,hi,ha,hp,hA,hc,hT⟩;simp only [List.cons.injEq,and_true]at hv hi ha hp;obtain⟨rfl,rfl⟩:=hv;obtain⟨rfl,rfl,rfl⟩:=hi;obtain⟨rfl,rfl,rfl,rfl,rfl,rfl,rfl,rfl,rfl,rfl,rfl,rfl⟩:=ha;obtain⟨rfl,rfl,rfl,rfl,rfl⟩:=hp;obtain⟨b,hb⟩: ∃b,b=B+8*q:=⟨_,rfl⟩;obtain⟨now,hnw⟩: ∃now,now=T0+5*q:=⟨_,rfl⟩;obtain⟨Tb,hTb⟩: ∃Tb,Tb=T1+90000*q:=⟨_,rfl⟩;rw [←hb,←hnw]at hc;rw [←hTb]at hT;refine⟨fun cK=>?_,fun wG=>?_⟩
 ·refine⟨fun k=> ∃n:Nat,n≤b∧NZ z (Calm F H T0 (b - n) now dl) (Tb+4*n) (n:Int) k,fun k=>(20001 - k.i.getD 2 0).toNat,⟨_,_,_,_,_,_,_,_,_,_,_,_,_,_,_,_,_,_,_,_,_,_,rfl,rfl,rfl,rfl,rfl,rfl,fun _ _=>rfl,fun _ _=>rfl,fun _ _=>rfl,fun _ _=>rfl,fun _ _=>rfl,fun _ _=>rfl,fun _ _=>rfl,fun _ _=>rfl,fun _ _=>rfl,fun _ _=>rfl,fun _ _=>rfl,fun _ _=>rfl,fun _ _=>rfl,rfl,rfl,rfl,rfl,rfl,0,Nat.zero_le _,s,_,_,A,T,rfl,rfl,rfl,rfl,hA,hc,hT⟩,?_⟩;clear hA hc hT;rintro v4 v5 x8 x9 aG mg mh mi mj ml mn mo mr lC mv mw my pf sU ux oa pg ⟨n,hn,s,vf,ve,A,T,hv,hi,ha,hp,hA,hc,hT⟩;simp only [List.cons.injEq,and_true]at hv hi ha hp;obtain⟨rfl,rfl⟩:=hv;obtain⟨rfl,rfl,rfl⟩:=hi;obtain⟨rfl,rfl,rfl,rfl,rfl,rfl,rfl,rfl,rfl,rfl,rfl,rfl⟩:=ha;obtain⟨rfl,rfl,rfl,rfl,rfl⟩:=hp;refine⟨by omega,fun _=>⟨fun c0=>⟨fun c1=>absurd c1 (by omega),fun c1=>?_⟩,fun c0=>?_⟩⟩
  ·have hlen:=hc.g.len;obtain⟨b',PI⟩: ∃b',b - n=b'+1:=⟨b - n - 1,by omega⟩;rw [PI]at hc;refine⟨_,Bq hS hc (by omega) (by omega) (by omega) hA (by omega),?_⟩;rintro v hs ⟨rfl,s',fx,fy,t_,rfl⟩;refine⟨fx,fy,(s'.now:Int),_,_,_,_,_,_,rfl,(by simp only [four,Dm.iD,t_.d];rfl),?_⟩;refine⟨N0 s'.bS,fun w Fs own=>?_,?_⟩
   ·obtain⟨A',N2,N3⟩:=bare own;exact⟨(s'.bS.length:Int),A' 0,A' 1,A' 2,A' 3,A' 4,A' 5,A' 6,A' 7,A' 8,A' 9,A' 10,A' 11,N3,A',rfl,rfl,N2⟩
   rintro aI jy l_ lD lE kP ma jA lf lg kB kC lh ⟨A',hi,ha,N2⟩;simp only [List.cons.injEq,and_true]at hi ha;subst hi;obtain⟨rfl,rfl,rfl,rfl,rfl,rfl,rfl,rfl,rfl,rfl,rfl,rfl⟩:=ha;refine⟨by omega,fun _=>⟨by omega,fun _=>⟨_,_,_,_,_,_,_,_,_,_,_,_,_,_,_,_,_,_,_,_,_,_,rfl,rfl,rfl,rfl,rfl,rfl,fun _ _=>rfl,fun _ _=>rfl,fun _ _=>rfl,fun _ _=>rfl,fun _ _=>rfl,fun _ _=>rfl,fun _ _=>rfl,fun _ _=>rfl,fun _ _=>rfl,fun _ _=>rfl,fun _ _=>rfl,fun _ _=>rfl,fun _ _=>rfl,rfl,rfl,rfl,rfl,rfl,⟨n+1,by omega,s',fx,fy,A',T+4,rfl,(by simp only [List.cons.injEq,and_true,true_and];omega),rfl,rfl,N2,(by rw [show b - (n+1)=b' by omega];exact t_),by omega⟩,?_⟩⟩⟩;simp only [ah,aeg];omega
  have Tw:s.bS=[]:=adZ (by omega);refine⟨_,K3 hS hc (by omega) (by omega) (by omega) hA Tw,?_⟩;rintro v hs ⟨rfl,s',fx,fy,t_,rfl⟩;refine⟨fx,fy,(s'.now:Int),_,_,_,_,_,_,rfl,(by simp only [four,Dm.iD,t_.d];rfl),?_⟩;refine⟨N0 s'.bS,fun w Fs own=>?_,?_⟩
  ·obtain⟨A',N2,N3⟩:=bare own;exact⟨(s'.bS.length:Int),A' 0,A' 1,A' 2,A' 3,A' 4,A' 5,A' 6,A' 7,A' 8,A' 9,A' 10,A' 11,N3,A',rfl,rfl,N2⟩
  rintro aI jy l_ lD lE kP ma jA lf lg kB kC lh ⟨A',hi,ha,N2⟩;simp only [List.cons.injEq,and_true]at hi ha;subst hi;obtain⟨rfl,rfl,rfl,rfl,rfl,rfl,rfl,rfl,rfl,rfl,rfl,rfl⟩:=ha;refine⟨by omega,fun _=>⟨by omega,fun _=>⟨_,_,_,_,_,_,_,_,_,_,_,_,_,_,_,_,_,_,_,_,_,_,rfl,rfl,rfl,rfl,rfl,rfl,fun _ _=>rfl,fun _ _=>rfl,fun _ _=>rfl,fun _ _=>rfl,fun _ _=>rfl,fun _ _=>rfl,fun _ _=>rfl,fun _ _=>rfl,fun _ _=>rfl,fun _ _=>rfl,fun _ _=>rfl,fun _ _=>rfl,fun _ _=>rfl,rfl,rfl,rfl,rfl,rfl,⟨q+1,by omega,s',fx,fy,A',T+16,rfl,(by simp only [List.cons.injEq,and_true,true_and];omega),rfl,rfl,N2,⟨t_.g.more (by omega),t_.k,t_.l,t_.n.trans (by omega),t_.d⟩,by omega⟩,?_⟩⟩⟩;simp only [ah,aeg];omega
 ·refine⟨fun k=> ∃n:Nat,n≤b∧NZ z (Calm F H T0 (b - n) now dl) (Tb+4*n) (n:Int) k,fun k=>(20001 - k.i.getD 2 0).toNat,⟨_,_,_,_,_,_,_,_,_,_,_,_,_,_,_,_,_,_,_,_,_,_,rfl,rfl,rfl,rfl,rfl,rfl,fun _ _=>rfl,fun _ _=>rfl,fun _ _=>rfl,fun _ _=>rfl,fun _ _=>rfl,fun _ _=>rfl,fun _ _=>rfl,fun _ _=>rfl,fun _ _=>rfl,fun _ _=>rfl,fun _ _=>rfl,fun _ _=>rfl,fun _ _=>rfl,rfl,rfl,rfl,rfl,rfl,0,Nat.zero_le _,s,_,_,A,T,rfl,rfl,rfl,rfl,hA,hc,hT⟩,?_⟩;clear hA hc hT;rintro v4 v5 x8 x9 aG mg mh mi mj ml mn mo mr lC mv mw my pf sU ux oa pg ⟨n,hn,s,vf,ve,A,T,hv,hi,ha,hp,hA,hc,hT⟩;simp only [List.cons.injEq,and_true]at hv hi ha hp;obtain⟨rfl,rfl⟩:=hv;obtain⟨rfl,rfl,rfl⟩:=hi;obtain⟨rfl,rfl,rfl,rfl,rfl,rfl,rfl,rfl,rfl,rfl,rfl,rfl⟩:=ha;obtain⟨rfl,rfl,rfl,rfl,rfl⟩:=hp;refine⟨by omega,fun _=>⟨fun c0=>⟨fun c1=>absurd c1 (by omega),fun c1=>?_⟩,fun c0=>?_⟩⟩
  ·have hlen:=hc.g.len;obtain⟨b',PI⟩: ∃b',b - n=b'+1:=⟨b - n - 1,by omega⟩;rw [PI]at hc;refine⟨_,Bq hS hc (by omega) (by omega) (by omega) hA (by omega),?_⟩;rintro v hs ⟨rfl,s',fx,fy,t_,rfl⟩;refine⟨fx,fy,(s'.now:Int),_,_,_,_,_,_,rfl,(by simp only [four,Dm.iD,t_.d];rfl),?_⟩;refine⟨N0 s'.bS,fun w Fs own=>?_,?_⟩
   ·obtain⟨A',N2,N3⟩:=bare own;exact⟨(s'.bS.length:Int),A' 0,A' 1,A' 2,A' 3,A' 4,A' 5,A' 6,A' 7,A' 8,A' 9,A' 10,A' 11,N3,A',rfl,rfl,N2⟩
   rintro aI jy l_ lD lE kP ma jA lf lg kB kC lh ⟨A',hi,ha,N2⟩;simp only [List.cons.injEq,and_true]at hi ha;subst hi;obtain⟨rfl,rfl,rfl,rfl,rfl,rfl,rfl,rfl,rfl,rfl,rfl,rfl⟩:=ha;refine⟨by omega,fun _=>⟨by omega,fun _=>⟨_,_,_,_,_,_,_,_,_,_,_,_,_,_,_,_,_,_,_,_,_,_,rfl,rfl,rfl,rfl,rfl,rfl,fun _ _=>rfl,fun _ _=>rfl,fun _ _=>rfl,fun _ _=>rfl,fun _ _=>rfl,fun _ _=>rfl,fun _ _=>rfl,fun _ _=>rfl,fun _ _=>rfl,fun _ _=>rfl,fun _ _=>rfl,fun _ _=>rfl,fun _ _=>rfl,rfl,rfl,rfl,rfl,rfl,⟨n+1,by omega,s',fx,fy,A',T+4,rfl,(by simp only [List.cons.injEq,and_true,true_and];omega),rfl,rfl,N2,(by rw [show b - (n+1)=b' by omega];exact t_),by omega⟩,?_⟩⟩⟩;simp only [ah,aeg];omega
  have Tw:s.bS=[]:=adZ (by omega);refine⟨rfl,s,v4,v5,T,⟨fun i hi=>hc.l.FR hc.g.inv hc.g.yg Tw (by have:=hc.n;omega) hi,fun i hi h4=>(hc.g.inv.peer hi (by omega)).2⟩,?_⟩;simp only [four,Dm.iD,hc.d];exact aD.cons (aD.refl _) (aD.cons (fW hA) (aD.refl _))
end Go.RX.Dp

namespace Go.RX.Dr
open Go.RX Go.Proofs Go.Cp Go.RX.Cs Go.RX.Ct Go.RX.Cu Go.RX.Cy Go.RX.Cz Go.RX.Da Go.RX.Dc Go.RX.Dd Go.RX.Df Go.RX.Dg Go.RX.Di Go.RX.Dj Go.RX.Dk Go.RX.Dl Go.RX.Dm Go.RX.Dn Go.RX.Do Go.RX.Dp
set_option maxRecDepth 100000
def start:Sy LI:=⟨1,fun _=>Dh.idle,[],0,fun _=>none,fun _=>none,fun _ _=>false,fun _=>none,fun _=>zK,fun _ _=>none⟩
variable {F:Nat→LI→LI→Nat→Nat→LI} {H:LI→LI}
theorem Hp:K2 F H 0 1 0 start:=⟨Good.start 1 _ (fun _ _=>rfl) _,⟨fun _ _=>KM.idle rfl,fun x hx=>by simp [start]at hx⟩,Nat.le_refl _,Nat.le_refl _⟩
theorem map_nil(b:Nat):aD [b_ b [.u8,.u8] true false ([.slice none 0 0]) (fun i=>As [] i) (uY [] ([.slice none 0 0]))] [zn b fun _=>0]:=by
 have e1:(fun i=>As [] i)=fun i:Nat=> !((0:Int)==0):=by funext i;rfl
 have e2:uY [] ([.slice none 0 0])=cI [dI 1 (fun j=>kQ (qq (fun _=>0) j))]:=by
  funext i;have:qq (fun _=>0) i=0:=by
   unfold qq
   repeat' split
   all_goals rfl
  show [Value.slice none 0 0]=[dI 1 (fun j=>kQ (qq (fun _=>0) j))].flatMap fun c=>c i
  simp [dI,this,C_]
 rw [e1,e2];exact aD.ex (F:=fun Hs:Nat→Int=>b_ b [.u8,.u8] true false ([.slice none 0 0]) (fun i=> !(Hs i==0)) (cI [dI 1 (fun j=>kQ (qq (fun _=>0) j))])) (fun _=>0) rfl
theorem ua(b:Nat):aD [b_ b qg true false ([.int .u8 0]) (fun i=> !((fun _=>(0:Int)) i==0)) (cI [au .u8 1 (fun _=>0)])] [iI b fun _=>false]:=
 aD.ex (F:=fun x:{x:(Nat→Int)×(Nat→Int) // oT x.1 (fun _=>false)}=>b_ b qg true false ([.int .u8 0]) (fun i=> !(x.1.1 i==0)) (cI [au .u8 1 x.1.2])) ⟨(fun _=>0,fun _=>0),fun c=>by simp⟩ rfl
theorem N4(b:Nat):aD [b_ b qg true true ([.int .u8 0,.int .u8 0]) (fun i=> !((fun _=>(0:Int)) i==0)) (cI [au .u8 1 (fun _=>0),au .u8 1 (fun _=>0)])] [sL b fun _=>none]:=
 aD.ex (F:=fun x:{x:(Nat→Int)×(Nat→Int)×(Nat→Int) // qp x.1 x.2.1 x.2.2 (fun _=>none)}=>b_ b qg true true ([.int .u8 0,.int .u8 0]) (fun i=> !(x.1.1 i==0)) (cI [au .u8 1 x.1.2.1,au .u8 1 x.1.2.2])) ⟨(fun _=>0,fun _=>0,fun _=>0),⟨fun c=>by simp,fun c=>by simp,fun c=>by simp,fun c=>by simp⟩⟩ rfl
theorem Tx(b:Nat):aD [b_ b qg true true (adH (al .u8 32 (fun _=>0)) ([])) (fun i=> !((fun _=>(0:Int)) i==0)) (cI [au .u8 32 (fun _=>0)])] [Hi b fun _=>none]:=
 aD.ex (F:=fun x:{x:(Nat→Int)×(Nat→Int) // EY x.1 x.2 (fun _=>none)}=>b_ b qg true true (adH (al .u8 32 (fun _=>0)) ([])) (fun i=> !(x.1.1 i==0)) (cI [au .u8 32 x.1.2])) ⟨(fun _=>0,fun _=>0),⟨fun c=>by simp,fun c k hk=>by cases hk⟩⟩ rfl
theorem QO:aD [] [cR cg []]:=aD.trans (aD.EX 216 59) (fW (v:=cg) (l:=[]) (A:=fun _ _=>0) ⟨rfl,fun _ hj=>absurd hj (Nat.not_lt_zero _)⟩)
theorem QP:aD [] [tX cg 0]:=aD.trans (aD.EX 76 56) (aD.ex (F:=fun x:{x:Nat×dx // x.1≤0}=>aB true 76 56 cg.v x.1.1 (aH x.1.1 (KD x.1.2))) ⟨(0,fun _ _=>0),Nat.le_refl _⟩ rfl)
theorem ub:aD [] [fM (Bn 0) 0]:=aD.trans (aD.EX 85 22) (aD.ex (F:=fun x:{x:Nat×dx // x.1≤0}=>aB true 85 22 (Bn 0).v x.1.1 (aH x.1.1 (KE x.1.2))) ⟨(0,fun _ _=>0),Nat.le_refl _⟩ rfl)
theorem _root_.Go.RX.aD.more{a:HP}{c d:List HP}(h:aD [] [a])(k:aD c d):aD c (a::d):=aD.trans (aD.frame h c) (aD.cons (aD.refl _) k)
theorem E7:aq adY 59 [] [] fun rv hs=> ∃(z:FB) (vf ve:V1),rv= .pointer (some ⟨z.b0,0,none⟩)∧hs=four z vf ve start 0:=by
 refine aq.post (p:=fun rv hs=> ∃(z:FB) (vf ve:V1),rv= .pointer (some ⟨z.b0,0,none⟩)∧aD hs (four z vf ve start 0)) ?_ fun _ _ ⟨z,vf,ve,h1,h2⟩=>⟨_,h2,z,vf,ve,h1,rfl⟩
 refine Dq.M0 _ ?_;unfold Dq.Em;intro b0 b1 b2 b3 b4 b5 b6;refine⟨_,Dh.lz 0,?_⟩;rintro v hs ⟨m0,rfl,rfl⟩;refine⟨m0,_,rfl,rfl,fun _=>True,⟨fun _ _ _=>⟨_,rfl,rfl,trivial⟩,fun _ _ _=>⟨_,rfl,rfl,trivial⟩⟩,fun r0 _=>fun _ _=>⟨_,Dh.lz 1,?_⟩⟩;rintro v hs ⟨m1,rfl,rfl⟩;refine⟨m1,_,rfl,rfl,fun _=>True,⟨fun _ _ _=>⟨_,rfl,rfl,trivial⟩,fun _ _ _=>⟨_,rfl,rfl,trivial⟩⟩,fun r1 _=>fun _ _=>⟨_,Dh.lz 2,?_⟩⟩;rintro v hs ⟨m2,rfl,rfl⟩;refine⟨m2,_,rfl,rfl,fun _=>True,⟨fun _ _ _=>⟨_,rfl,rfl,trivial⟩,fun _ _ _=>⟨_,rfl,rfl,trivial⟩⟩,fun r2 _=>fun _ _=>⟨_,Dh.lz 3,?_⟩⟩;rintro v hs ⟨m3,rfl,rfl⟩;refine⟨m3,_,rfl,rfl,fun _=>True,⟨fun _ _ _=>⟨_,rfl,rfl,trivial⟩,fun _ _ _=>⟨_,rfl,rfl,trivial⟩⟩,fun r3 _=>?_⟩;refine⟨⟨b4,b0,b1,b2,b3,fun k=>s4 k m0 m1 m2 m3⟩,cg,cg,rfl,?_⟩
 let br:Nat→Nat:=fun k=>s4 k r0 r1 r2 r3
 have VT:aD [b_ b0 qg true true ([.int .u8 0,.int .u8 0]) (fun i=> !((fun _=>(0:Int)) i==0)) (cI [au .u8 1 (fun _=>0),au .u8 1 (fun _=>0)]),b_ b1 qg true true (adH (al .u8 32 (fun _=>0)) ([])) (fun i=> !((fun _=>(0:Int)) i==0)) (cI [au .u8 32 (fun _=>0)]),oU b2 br,b_ b3 [.u8,.u8] true false ([.slice none 0 0]) (fun i=>As [] i) (uY [] ([.slice none 0 0])),
   b_ r0 qg true false ([.int .u8 0]) (fun i=> !((fun _=>(0:Int)) i==0)) (cI [au .u8 1 (fun _=>0)]),b_ r1 qg true false ([.int .u8 0]) (fun i=> !((fun _=>(0:Int)) i==0)) (cI [au .u8 1 (fun _=>0)]),b_ r2 qg true false ([.int .u8 0]) (fun i=> !((fun _=>(0:Int)) i==0)) (cI [au .u8 1 (fun _=>0)]),b_ r3 qg true false ([.int .u8 0]) (fun i=> !((fun _=>(0:Int)) i==0)) (cI [au .u8 1 (fun _=>0)])] [nA cg b0 b1 b2 b3 (fun _=>none) (fun _=>none) (fun _ _=>false) 0]:=
  aD.trans (aD.more QP (aD.cons (N4 b0) (aD.cons (Tx b1) (aD.cons (aD.refl _) (aD.cons (map_nil b3) (aD.cons (ua r0) (aD.more ub (aD.cons (ua r1) (aD.more ub (aD.cons (ua r2) (aD.more ub (aD.cons (ua r3) ub)))))))))))) (u7 (ve:=cg) (b5:=b0) (b6:=b1) (b7:=b2) (b8:=b3) (bI:=fun _=>none) (pr:=fun _=>none) (done:=fun _ _=>false) (B:=0) (br:=br) (ra:=fun _=>0))
 refine aD.trans (iX (b:=[ak b4 true ([.int .u64 1,.pointer (some ⟨m0,0,none⟩),.pointer (some ⟨m1,0,none⟩),.pointer (some ⟨m2,0,none⟩),.pointer (some ⟨m3,0,none⟩),.slice none 0 0,.int .u16 0,.map (some b0),.map (some b1),.slice none 0 0,.map (some b2),.map (some b3),.bool false])]++
  ([b_ b0 qg true true ([.int .u8 0,.int .u8 0]) (fun i=> !((fun _=>(0:Int)) i==0)) (cI [au .u8 1 (fun _=>0),au .u8 1 (fun _=>0)]),b_ b1 qg true true (adH (al .u8 32 (fun _=>0)) ([])) (fun i=> !((fun _=>(0:Int)) i==0)) (cI [au .u8 32 (fun _=>0)]),oU b2 br,b_ b3 [.u8,.u8] true false ([.slice none 0 0]) (fun i=>As [] i) (uY [] ([.slice none 0 0])),
   b_ r0 qg true false ([.int .u8 0]) (fun i=> !((fun _=>(0:Int)) i==0)) (cI [au .u8 1 (fun _=>0)]),b_ r1 qg true false ([.int .u8 0]) (fun i=> !((fun _=>(0:Int)) i==0)) (cI [au .u8 1 (fun _=>0)]),b_ r2 qg true false ([.int .u8 0]) (fun i=> !((fun _=>(0:Int)) i==0)) (cI [au .u8 1 (fun _=>0)]),b_ r3 qg true false ([.int .u8 0]) (fun i=> !((fun _=>(0:Int)) i==0)) (cI [au .u8 1 (fun _=>0)])]++
  [cq m0 0 Dh.idle,cq m1 1 Dh.idle,cq m2 2 Dh.idle,cq m3 3 Dh.idle])) [4,0,1,2,3,6,8,10,12,5,7,9,11] (by decide) rfl) ?_
 exact aD.cons (aD.refl _) (aD.more QO (aD.both VT (aD.refl [cq m0 0 Dh.idle,cq m1 1 Dh.idle,cq m2 2 Dh.idle,cq m3 3 Dh.idle])))
end Go.RX.Dr
