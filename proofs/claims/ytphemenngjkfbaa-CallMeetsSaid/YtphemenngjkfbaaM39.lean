/- What a machine's step may be (plain). -/
import Derived.Test.YtphemenngjkfbaaM38
import Derived.Test.YtphemenngjkfbaaDkG
open BitVec renaming ofInt → aev
open Decidable renaming not_not → ad5
open Go.IntKind renaming wrap → ae
open Go.Proofs.Try renaming prog → adY
open Int renaming toNat → ag
open List renaming getD_cons_zero → ah, getElem?_eq_none → aeh, getElem?_eq_some_iff → adJ, mem_append → aea, mem_map → aeu, mem_range → adU
open Nat renaming lt_of_lt_of_le → adT
namespace Go.RX.Dl
open Go.RX Go.Proofs Go.Cp Go.RX.Cs Go.RX.Ct Go.RX.Cu Go.RX.Cy Go.RX.Cz Go.RX.Da Go.RX.Dc Go.RX.Dd Go.RX.Df Go.RX.Dg Go.RX.Di Go.RX.Dj
set_option maxRecDepth 100000
theorem VF:wa zK:=by
 intro v hv;simp only [zK,aJ,aeu]at hv;obtain⟨_,_,rfl⟩:=hv;decide
structure mD (s:Rs LI):Prop where
 o:s.o.length≤6
 r:s.r.length≤2
 e:s.e≠[]→s.m.ph≠0
 m:KM s.m
 s: ∀y∈s.o,KS y
variable {i:Nat} {m:Mc LI} {X:Mg LI} {now:Nat} {F:Nat→LI→LI→Nat→Nat→LI} {H:LI→LI}
theorem _root_.Go.RX.Cz.KM.idle{m:Mc LI}(h:m.ph=0):KM m:=⟨fun e=>absurd h e,fun e=>absurd h e,fun e=>absurd h e,fun e=>absurd h e⟩
theorem _root_.Go.RX.Cz.KM.same{m m':Mc LI}(h:KM m)(h0:m.ph≠0)(h1:m'.c=m.c)(h2:m'.own=m.own)(h3:m'.off=m.off)(h4:m'.dg=m.dg):KM m':=
 ⟨fun _=>h1▸h.c h0,fun _=>h2▸h.own h0,fun _=>h3▸h.off h0,fun _=>h4▸h.dg h0⟩
theorem lZ(h:KM m):mD (gY m):=⟨by simp [gY],by simp [gY],fun e=>absurd rfl e,h,fun _ hy=>by simp [gY]at hy⟩
theorem qs(h:KM m){y:Mg LI}(hy:KS y):mD ⟨m,[y],[],[]⟩:=⟨by simp,by simp,fun e=>absurd rfl e,h,fun z hz=>by simp at hz;exact hz▸hy⟩
theorem Hk{k c f t:Nat}(h:Tk c):KS ⟨k,c,f,t,zK⟩:=⟨h,VF⟩
theorem RB{k c:Nat}(h:Tk c){sub:List Nat}: ∀y∈Cp.to zK k c i sub,KS y:=by
 intro y hy;simp only [Cp.to,aeu]at hy;obtain⟨_,_,rfl⟩:=hy;exact Hk h
theorem gG(h:KM m)(h0:m.ph≠0){sub:List Nat}(hs:sub.length≤2):mD (leaves zK i m sub):=by
 refine⟨?_,by simp [leaves],fun e=>absurd rfl e,KM.idle rfl,?_⟩
 ·simp only [leaves];split
  ·simp [Cp.to];omega
  ·simp
 ·intro y hy;simp only [leaves]at hy;split at hy
  ·exact RB (h.c h0) y hy
  ·simp at hy;exact hy▸Hk (h.c h0)
theorem Bo:mD (ends m):=⟨by simp [ends],by simp [ends],fun e=>absurd rfl e,KM.idle rfl,fun _ hy=>by simp [ends]at hy⟩
theorem tZ(h:KM m)(h0:m.ph≠0)(hF: ∀c k k' a d,wa (F c k k' a d)){key:LI}(hk:wa key):mD (answers zK F i m key now):=by
 refine⟨by simp [answers],by simp [answers],fun _=>by simp [answers],⟨fun _=>h.c h0,fun _=>hk,fun _=>h.off h0,fun _=>hF _ _ _ _ _⟩,fun y hy=>?_⟩;simp [answers]at hy;rcases hy with rfl | rfl
 ·exact⟨h.c h0,hk⟩
 ·exact Hk (h.c h0)
theorem KY(hK:KM m)(hX:KS X)(hF: ∀c k k' a d,wa (F c k k' a d))(q:Or)(h1:q.sub.length≤2)(h2:q.xB.length≤2):mD (take zK F H i m X now q):=by
 have n:=lZ hK;have kr:KM (rings zK X now):=⟨fun _=>hX.c,fun _=>VF,fun _=>hX.key,fun _=>VF⟩;have s1: ∀k t,KS (⟨k,X.c,i,t,zK⟩:Mg LI):=fun k t=>Hk hX.c
 unfold take;split
 ·split
  ·exact n
  split
  ·exact⟨by simp,by simp,fun e=>absurd rfl e,kr,fun _ hy=>by simp at hy⟩
  split
  ·exact n
  split
  ·rename_i h0 _ h3;have a:=gG (i:=i) hK h0 h1;have b:=tZ (i:=i) (now:=now) kr (by simp [rings]) hF (hK.own h0);refine⟨?_,a.r,b.e,b.m,fun y hy=>?_⟩
   ·simp only [List.length_append];have e1:(leaves zK i m q.sub).o.length≤2:=by
     simp only [leaves,h3.1,if_true];simp [Cp.to];exact h1
    have e2:(answers zK F i (rings zK X now) m.own now).o.length=2:=rfl;omega
   ·rcases aea.1 hy with hy | hy
    ·exact a.s y hy
    ·exact b.s y hy
  split
  ·exact n
  ·exact qs hK (s1 _ _)
 split
 ·split
  ·exact qs hK (s1 _ _)
  rename_i hh;have hh:=ad5.1 hh;have hc:=hK.c hh.1;split
  ·have km:KM {m with ph:=3,dg:=F m.c m.own X.key i X.f,peer:=X.f,since:=now}:=⟨fun _=>hc,fun _=>hK.own hh.1,fun _=>hK.off hh.1,fun _=>hF _ _ _ _ _⟩;have so: ∀y∈(⟨3,m.c,i,X.f,zK⟩:Mg LI)::Cp.to zK 6 m.c i q.xB,KS y:=by
    intro y hy;rcases List.mem_cons.1 hy with rfl | hy
    ·exact Hk hc
    ·exact RB hc y hy
   have lo:((⟨3,m.c,i,X.f,zK⟩:Mg LI)::Cp.to zK 6 m.c i q.xB).length≤6:=by simp [Cp.to];omega
   split
   ·exact⟨lo,by simp,fun _=>by simp [dX],⟨fun _=>hc,fun _=>hK.own hh.1,fun _=>hK.off hh.1,fun _=>hF _ _ _ _ _⟩,so⟩
   ·exact⟨lo,by simp,fun _=>by simp,km,so⟩
  split
  ·exact qs hK (s1 _ _)
  ·exact n
 split
 ·split
  ·exact qs hK (s1 _ _)
  rename_i hh;have hh:=ad5.1 hh;split
  ·exact n
  split
  ·exact⟨by simp,by simp,fun _=>by simp [dX],hK.same hh.1 rfl rfl rfl rfl,fun _ hy=>by simp at hy⟩
  split
  ·exact⟨by simp,by simp,fun e=>absurd rfl e,hK.same hh.1 rfl rfl rfl rfl,fun _ hy=>by simp at hy⟩
  ·exact n
 split
 ·split
  ·rename_i h;exact gG hK h.1.1 h1
  ·exact n
 split
 ·split
  ·exact n
  rename_i hh;have hh:=ad5.1 hh;split
  ·split
   ·exact gG hK hh.1 h1
   ·exact n
  split
  ·exact n
  ·exact Bo
 split
 ·split
  ·exact Bo
  ·exact n
 ·exact n
theorem qY(hK:KM m)(q:Or)(h1:q.sub.length≤2):mD (tick zK i m now q):=by
 unfold tick;split
 ·rename_i h;exact gG hK (by omega) h1
 split
 ·rename_i h;exact gG hK (by omega) h1
 split
 ·rename_i h;exact gG hK (by omega) h1
 split
 ·rename_i h;exact qs (hK.same (m':={m with bD:=now}) (by omega) rfl rfl rfl rfl) (Hk (hK.c (by omega)))
 ·exact lZ hK
theorem E0(hK:KM m)(hF: ∀c k k' a d,wa (F c k k' a d)){key:LI}(hk:wa key):mD (answer zK F i m key now):=by
 unfold answer;split
 ·exact tZ hK (by omega) hF hk
 ·exact lZ hK
theorem Ch(hK:KM m):mD (eQ zK i m):=by
 unfold eQ;split
 ·exact⟨by simp,by simp,fun e=>absurd rfl e,KM.idle rfl,fun y hy=>by simp at hy;exact hy▸Hk (hK.c (by omega))⟩
 ·exact lZ hK
theorem KZ(hK:KM m)(q:Or)(h1:q.sub.length≤2):mD (px zK i m q):=by
 unfold px;split
 ·exact lZ hK
 ·exact gG hK (by omega) h1
theorem E1{c:Nat}(hc:Tk c){key:LI}(hk:wa key):mD (dD zK i c key now):=by
 refine⟨by simp [dD,others],by simp [dD],fun e=>absurd rfl e,⟨fun _=>hc,fun _=>hk,fun _=>VF,fun _=>VF⟩,fun y hy=>?_⟩;simp only [dD,aeu]at hy;obtain⟨_,_,rfl⟩:=hy;exact⟨hc,hk⟩
structure Keys (s:Sy LI):Prop where
 m: ∀i,i<4→KM (s.ms i)
 s: ∀x∈s.bS,KS x
theorem Keys.after{s s':Sy LI}{r:Rs LI}(h:Keys s)(a:kv s s' i r)(hr:mD r):Keys s':=by
 refine⟨fun j hj=>?_,fun x hx=>?_⟩
 ·rw [a.ms];by_cases e:j=i
  ·subst e;rw [du];exact hr.m
  ·rw [fK _ _ e];exact h.m j hj
 ·rw [a.bS]at hx;rcases aea.1 hx with hx | hx
  ·exact h.s x hx
  ·exact hr.s x hx
theorem Keys.erase{s:Sy LI}(h:Keys s)(n:Nat):Keys {s with bS:=s.bS.eraseIdx n}:=⟨h.m,fun x hx=>h.s x (List.mem_of_mem_eraseIdx hx)⟩
theorem QG{t:Nat→Option Nat}{p:Nat→Option LI}(l:List (Ev LI)):wE i m t p l=wE i m t p (told l):=by
 suffices h: ∀w:Wo LI,l.foldl (ku i (tY m)) w=(told l).foldl (ku i (tY m)) w from h _
 induction l with
 | nil=>exact fun _=>rfl
 | cons v l ih=>
  intro w;rw [List.foldl_cons];by_cases h:(v.k==3||v.k==4)=true
  ·rw [told,List.filter_cons_of_pos (p:=fun v:Ev LI=>v.k==3||v.k==4) h,List.foldl_cons];exact ih _
  ·have e:ku i (tY m) w v=w:=by
    simp only [Bool.or_eq_true,beq_iff_eq,not_or]at h;rw [ku,if_neg (fun e=>h.1 e.1),if_neg h.2]
   rw [told,List.filter_cons_of_neg (p:=fun v:Ev LI=>v.k==3||v.k==4) h,e];exact ih w
theorem K1{s s':Sy LI}{r:Rs LI}(a:kv s s' i r)(hr:mD r){e':List (Ev LI)}(he:told e'=r.e):wE i r.m s.bI s.pr e'=⟨s'.bI,s'.pr,false⟩∧wR i s.now s.done false r.r=(s'.done,false):=by
 refine⟨?_,a.rc⟩;rw [QG,he,←a.ev];by_cases h:r.e=[]
 ·rw [h];rfl
 ·have:tY r.m=r.m.out:=by simp [tY,hr.e h]
  rw [wE,this]
theorem fp(hi:i<4){s s':Sy LI}{r:Rs LI}(a:kv s s' i r)(hr:mD r){e':List (Ev LI)}(he:Tl [] e' r.e)(b0 b5 b6 b7 b8 T:Nat)(bm:Nat→Nat)(vf ve v0 v1 v2:V1)(hf:s.bS.length≤900000000)(hT:T≤900000000):
  aq adY 101 [.pointer (some ⟨b0,0,none⟩),.int .i64 (i:Int),.agg #[v0.v,v1.v,v2.v]]
   [fN b0 (s.now:Int) (s.dl:Int) bm vf ve b5 b6 b7 b8 false,cR vf s.bS,nA ve b5 b6 b7 b8 s.bI s.pr s.done T,cq (bm i) i r.m,eB v0 v1 v2 i s.now r.o e' r.r]
   fun rv hs=>rv= .tuple #[]∧∃fx fy:V1,hs=[fN b0 (s'.now:Int) (s'.dl:Int) bm fx fy b5 b6 b7 b8 false,cR fx s'.bS,nA fy b5 b6 b7 b8 s'.bI s'.pr s'.done (T+4),cq (bm i) i r.m]:=by
 obtain⟨d,hd,hl,ht⟩:=he;rw [List.nil_append]at hd;subst hd;obtain⟨h1,h2⟩:=K1 a hr ht;have:=EZ (B:=T) (done:=s.done) hi b0 b5 b6 b7 b8 bm vf ve v0 v1 v2 s.now (s.dl:Int) s.bS s.bI s.pr r.m r.o e' r.r (by have:=hr.o;omega) hT hl (by have:=hr.r;omega);rw [h1,h2]at this;rw [a.now,a.dl,a.bS];exact this
end Go.RX.Dl

namespace Go.RX.Dm
open Go.RX Go.Proofs Go.Cp Go.RX.Cs Go.RX.Ct Go.RX.Cu Go.RX.Cy Go.RX.Cz Go.RX.Da Go.RX.Dc Go.RX.Dd Go.RX.Df Go.RX.Dg Go.RX.Di Go.RX.Dj Go.RX.Dk Go.RX.Dl
set_option maxRecDepth 100000
theorem u9{f:Nat→Int}{n m L j:Nat}(hm:m=L - (n+1))(hn:n<L)(hj:j<L - 1):aW f n m (aP f (n+1)) j=f (if j<n then j else j+1):=by
 simp only [aW,aP];split<;>split<;>first | (congr 1;omega) | omega
theorem NR{f:Nat→Int}{n m L j:Nat}(hm:m=L - (n+1))(hn:n<L)(hj:j<L - 1):aJ (aW f (n*16) (m*16) (aP f ((n+1)*16))) (j*16) 16=aJ f ((if j<n then j else j+1)*16) 16:=by
 refine List.map_congr_left fun t ht=>?_
 have:=adU.1 ht;simp only [aW,aP];split<;>split<;>first | (congr 1;omega) | omega
theorem NS{f:Nat→Int}{n m L j:Nat}(hm:m=L - (n+1))(hn:n<L)(hj:j<L - 1):aJ (aW f (n*32) (m*32) (aP f ((n+1)*32))) (j*32) 32=aJ f ((if j<n then j else j+1)*32) 32:=by
 refine List.map_congr_left fun t ht=>?_
 have:=adU.1 ht;simp only [aW,aP];split<;>split<;>first | (congr 1;omega) | omega
theorem Ci{A:dx}{l:List (Mg LI)}(h:fw A l){k:Nat}(hk:k<l.length):l[k]? =some (mX A k):=by
 rw [h.e];simp [hk]
theorem _root_.Go.RX.Dg.fw.erase{A:dx}{l:List (Mg LI)}(h:fw A l){n m:Nat}(hn:n<l.length)(hm:m=l.length - (n+1)){B:dx}(h0:B 0=aW (A 0) n m (aP (A 0) (n+1)))(h1:B 1=aW (A 1) n m (aP (A 1) (n+1)))(h2:B 2=aW (A 2) n m (aP (A 2) (n+1)))(h3:B 3=aW (A 3) n m (aP (A 3) (n+1)))(h4:B 4=aW (A 4) n m (aP (A 4) (n+1)))
  (h5:B 5=aW (A 5) (n*16) (m*16) (aP (A 5) ((n+1)*16))) (h9:B 9=aW (A 9) (n*32) (m*32) (aP (A 9) ((n+1)*32))):fw B (l.eraseIdx n):=by
 have hl:(l.eraseIdx n).length=l.length - 1:=List.length_eraseIdx_of_lt hn;refine⟨?_,?_⟩
 ·refine List.ext_getElem? fun j=>?_
  rw [hl];by_cases hj:j<l.length - 1
  ·have e1:mX B j=mX A (if j<n then j else j+1):=by
    simp only [mX,h0,h1,h2,h3,h4,h5,h9,u9 hm hn hj,NR hm hn hj,NS hm hn hj]
   rw [List.getElem?_map,List.getElem?_range hj,Option.map_some,e1,List.getElem?_eraseIdx];split
   ·exact Ci h (by omega)
   ·exact Ci h (by omega)
  ·rw [aeh (by omega),aeh (by simp;omega)]
 ·intro j hj;rw [hl]at hj;rw [h0,h1,h2,h3,h4,u9 hm hn hj,u9 hm hn hj,u9 hm hn hj,u9 hm hn hj,u9 hm hn hj];exact h.f _ (by split<;>omega)
theorem fW{v:V1}{l:List (Mg LI)}{A:dx}(h:fw A l):aD [aB true 216 59 v.v l.length (aH l.length (qo A))] [cR v l]:=
 aD.ex (F:=fun A:{A:dx // fw A l}=>aB true 216 59 v.v l.length (aH l.length (qo A.1))) ⟨A,h⟩ rfl
theorem u_{bm:Nat→Nat}{ms:Nat→Mc LI}{i:Nat}{m:Mc LI}(k:Nat):cV (fun k=>cq (bm k) k (ms k)) i (cq (bm i) i m) k=cq (bm k) k (cV ms i m k):=by
 unfold cV;split
 ·rename_i h;rw [h]
 ·rfl
abbrev vd(bm:Nat→Nat)(ms:Nat→Mc LI):List HP:=[cq (bm 0) 0 (ms 0),cq (bm 1) 1 (ms 1),cq (bm 2) 2 (ms 2),cq (bm 3) 3 (ms 3)]
structure FB where
 b0:Nat
 b5:Nat
 b6:Nat
 b7:Nat
 b8:Nat
 bm:Nat→Nat
abbrev iD(z:FB)(vf ve:V1)(s:Sy LI):HP:=fN z.b0 (s.now:Int) (s.dl:Int) z.bm vf ve z.b5 z.b6 z.b7 z.b8 false
abbrev gH(z:FB)(ve:V1)(s:Sy LI)(T:Nat):HP:=nA ve z.b5 z.b6 z.b7 z.b8 s.bI s.pr s.done T
abbrev four(z:FB)(vf ve:V1)(s:Sy LI)(T:Nat):List HP:=iD z vf ve s::cR vf s.bS::gH z ve s T::vd z.bm s.ms
abbrev E2(z:FB)(vf ve:V1)(s:Sy LI)(T:Nat)(A:dx):List HP:=iD z vf ve s::aB true 216 59 vf.v s.bS.length (aH s.bS.length (qo A))::gH z ve s T::vd z.bm s.ms
theorem swap{W:Value→Rs LI→Value→Prop}{f b i now:Nat}{m:Mc LI}{args:List Value}(h:aq adY f args [cq b i m] (wh W b i now)):
  aq adY f args [cq b i m] fun rv hs=> ∃(v0 v1 v2:V1) (s:Rs LI) (e':List (Ev LI)),W (Y6 v0 v1 v2) s rv∧Tl [] e' s.e∧hs=[cq b i s.m,eB v0 v1 v2 i now s.o e' s.r]:=
 h.post fun _ _ ⟨v0,v1,v2,s,e',h1,h2,h3⟩=>⟨_,h3▸iX [1,0] (by decide) rfl,v0,v1,v2,s,e',h1,h2,rfl⟩
structure Room (s:Sy LI) (T:Nat):Prop where
 now:s.now<1000000000
 bS:s.bS.length≤800000000
 T:T≤800000000
variable {F:Nat→LI→LI→Nat→Nat→LI} {H:LI→LI} {z:FB} {vf ve:V1} {s:Sy LI} {T:Nat}
abbrev E3(z:FB)(P:Sy LI→Prop)(T:Nat)(rv:Value)(hs:List HP):Prop:=rv= .tuple #[]∧∃(s':Sy LI) (fx fy:V1),P s'∧hs=four z fx fy s' T
theorem Cj{P:Sy LI→Prop}{f:Nat}{args:List Value}{pre:List HP}(h:aq adY f args pre fun rv hs=>rv= .tuple #[]∧∃(s':Sy LI) (fx fy:V1),P s'∧aD hs (four z fx fy s' T)):aq adY f args pre (E3 z P T):=
 h.post fun _ _ ⟨h1,s',fx,fy,h2,h3⟩=>⟨_,h3,h1,s',fx,fy,h2,rfl⟩
theorem wi(P:Sy LI→Prop)(hS:u6 F H){n:Nat}{X:Mg LI}(hX:s.bS[n]? =some X)(hr:X.f<4∧X.t<4∧acc X.f≠acc X.t)(hk:Keys s)(hR:Room s T){A:dx}(hA:fw A s.bS)
  (hN: ∀q:Or,q.Ok X.t→∃s',(Keys s'→P s')∧kv {s with bS:=s.bS.eraseIdx n} s' X.t (take zK F H X.t (s.ms X.t) X s.now q)):
  aq adY 99 [.pointer (some ⟨z.b0,0,none⟩),.int .i64 (n:Int)] (E2 z vf ve s T A) (E3 z P (T+4)):=by
 refine Cj ?_;have hn:n<s.bS.length:=(adJ.1 hX).1;have VG:X=mX A n:=by
  have:=Ci hA hn;rw [hX]at this;exact Option.some.inj this
 have hq:=hA.f n hn;have hd:X.t<4:=hr.2.1;obtain⟨di,hdi⟩: ∃di,di=X.t:=⟨_,rfl⟩;rw [←hdi]at hd hN;have ht:(di:Int)=A 2 n*2+A 3 n:=by
  have:X.t=(2*A 2 n+A 3 n).toNat:=by rw [VG];rfl
  omega
 have hf:X.f=(2*A 0 n+A 1 n).toNat:=by rw [VG];rfl
 have Y_:A 0 n≠((di/2:Nat):Int):=by
  intro e;apply hr.2.2;unfold acc;omega
 have hm:=fun ao=>M1 di hd ao (s.now:Int) (s.dl:Int) 0 (s.bS.length:Int) (n:Int) (A 0) (A 1) (A 2) (A 3) (A 4) (A 5) (A 6) (A 7) (A 8) (A 9) (A 10) (A 11) vf ve z.b0 (z.bm 0) (z.bm 1) (z.bm 2) (z.bm 3) z.b5 z.b6 z.b7 z.b8 (gH z ve s T) (cq (z.bm 0) 0 (s.ms 0)) (cq (z.bm 1) 1 (s.ms 1)) (cq (z.bm 2) 2 (s.ms 2)) (cq (z.bm 3) 3 (s.ms 3)) (gH z ve s T)
 simp only [Int.toNat_natCast]at hm;refine hm _ ?_;clear hm;unfold nU;obtain⟨Y8,Y9,Za⟩:=Cf hd;have su:=fun v=>NN hd (fun k=>cq (z.bm k) k (s.ms k)) v
 have sf:=zm hd (fun k=>cq (z.bm k) k (s.ms k));simp only [zm hd z.bm,Y8,Y9,Za,sf,fun v=>(su v).1,fun v=>(su v).2.1,fun v=>(su v).2.2.1,fun v=>(su v).2.2.2,Uk,Ul,Int.toNat_natCast];have e1:ag ((s.bS.length:Int) - ((n:Int)+1))=s.bS.length - (n+1):=by omega
 have e2:ag ((n:Int)+((s.bS.length:Int) - ((n:Int)+1)))=s.bS.length - 1:=by omega
 have e3:ag ((n:Int)+1)=n+1:=by omega
 have e4:ag (((n:Int)+1)*16)=(n+1)*16:=by omega
 have e5:ag (((n:Int)+1)*32)=(n+1)*32:=by omega
 have e6:ag (((s.bS.length:Int) - ((n:Int)+1))*16)=(s.bS.length - (n+1))*16:=by omega
 have e7:ag (((s.bS.length:Int) - ((n:Int)+1))*32)=(s.bS.length - (n+1))*32:=by omega
 simp only [e1,e2,e3,e4,e5,e6,e7];have Vw:=hR.bS;refine⟨by omega,fun _=>⟨by omega,fun _=>fun b9=>⟨by omega,fun _=>⟨by omega,fun _=>⟨by omega,fun _=>⟨by omega,fun _=>⟨by omega,fun _=>⟨by omega,fun _=>⟨by omega,fun _=>⟨by omega,fun _=>fun v2=>?_⟩⟩⟩⟩⟩⟩⟩⟩⟩⟩;have Py:(s.bS.eraseIdx n).length=s.bS.length - 1:=List.length_eraseIdx_of_lt hn;refine⟨fun k=>k.p.getD 0 (cR v2 [])=cR v2 (s.bS.eraseIdx n),fun w Fs own=>⟨cR v2 (s.bS.eraseIdx n),?_,rfl⟩,fun p6 E4=>?_⟩
 ·have:=fW (v:=v2) (hA.erase (m:=s.bS.length - (n+1)) hn rfl (B:=fun c=>if c=5 then aW (A 5) (n*16) ((s.bS.length - (n+1))*16) (aP (A 5) ((n+1)*16))else if c=9 then aW (A 9) (n*32) ((s.bS.length - (n+1))*32) (aP (A 9) ((n+1)*32))else aW (A c) n (s.bS.length - (n+1)) (aP (A c) (n+1))) rfl rfl rfl rfl rfl rfl rfl);rw [Py]at this;exact this w Fs own
 simp only [ah]at E4;subst E4
 iterate 8 refine⟨by omega,fun _=>?_⟩
 refine⟨fun _=>True,fun w Fs own=>⟨ht,own,trivial⟩,fun _=>fun fh kA=>⟨fun c=>absurd (by omega) c,fun _=>?_⟩⟩;have hc:Tk X.c:=(hk.s X (List.mem_of_getElem? hX)).c;refine⟨_,swap (De.Hg (z.bm di) di s.now hd (s.ms di) (hk.m di hd) hS (f0:=A 0 n) (f1:=A 1 n) (bF:=A 4 n) (bA:=A 6 n) (bG:=A 7 n) (bO:=A 8 n) (bQ:=A 10 n) (bN:=A 11 n) (A5:=aP (A 5) (n*16)) (A6:=aP (A 9) (n*32)) (X:=X) ⟨hq.1,hq.2.1⟩ Y_ (hk.s X (List.mem_of_getElem? hX)) ⟨rfl,by rw [VG,a_,mW];rfl,hf,by rw [VG,mW];rfl⟩ (by have h:X.k=(A 4 n).toNat:=(by rw [VG];rfl);omega)),?_⟩;rintro v hs ⟨v3,v4,v5,r,e',⟨rfl,q,Tr,rfl⟩,hT,rfl⟩;refine⟨v3,v4,v5,0,_,_,rfl,rfl,?_⟩;obtain⟨s',je,a⟩:=hN q Tr;have jG:mD (take zK F H di (s.ms di) X s.now q):=KY (hk.m di hd) (hk.s X (List.mem_of_getElem? hX)) hS.ok q Tr.mC Tr.Vx;refine⟨_,fp hd a jG hT z.b0 z.b5 z.b6 z.b7 z.b8 T z.bm v2 ve v3 v4 v5 (by simp only [Py];omega) (by have:=hR.T;omega),?_⟩;rintro v hs ⟨rfl,fx,fy,rfl⟩;refine⟨fx,fy,false,cR fx s'.bS,nA fy z.b5 z.b6 z.b7 z.b8 s'.bI s'.pr s'.done (T+4),rfl,(by rw [a.now,a.dl]),trivial,s',fx,fy,je ((hk.erase n).after a jG),?_⟩;simp only [four,iD,vd,a.now,a.dl,a.ms,u_];exact aD.refl _
end Go.RX.Dm

namespace Go.RX.Dn
open Go.RX Go.Proofs Go.Cp Go.RX.Cs Go.RX.Ct Go.RX.Cu Go.RX.Cy Go.RX.Cz Go.RX.Da Go.RX.Dc Go.RX.Dd Go.RX.Df Go.RX.Dg Go.RX.Di Go.RX.Dj Go.RX.Dk Go.RX.Dl Go.RX.Dm
set_option maxRecDepth 100000
variable {F:Nat→LI→LI→Nat→Nat→LI} {H:LI→LI} {z:FB} {vf ve:V1} {s:Sy LI} {T:Nat}
theorem NU{n d:Nat}(h:n+d<2^64):ae .u64 ((n:Int)+(d:Int))=((n+d:Nat):Int):=by
 have h3: ∀k:Nat,ae .u64 (k:Int)=((k%2^64:Nat):Int):=fun k=>by simp [ae,IntKind.bits,IntKind.signed]
 rw [←Int.natCast_add,h3,Nat.mod_eq_of_lt h]
theorem wj(P:Nat→Sy LI→Prop){d:Nat}(hd:d≤100)(hk:Keys s)(hR:Room s T)(hF: ∀j s,P j s→s.bS.length≤900000000)
  (h0:P 0 {s with now:=s.now+d}) (hN: ∀j s,j<4→P j s→∀q:Or,q.Ok j→∃s',P (j+1) s'∧kv s s' j (tick zK j (s.ms j) s.now q)):
  aq adY 100 [.pointer (some ⟨z.b0,0,none⟩),.int .u64 (d:Int)] (four z vf ve s T) (E3 z (fun s'=>P 4 s'∧Keys s') (T+16)):=by
 refine Cj ?_;have Ts:=hR.now;have hT:=hR.T;refine LP _ (s.now:Int) (s.dl:Int) 0 0 (d:Int) (fun _=>0) (fun _=>0) (fun _=>0) (fun _=>0) (fun _=>0) (fun _=>0) (fun _=>0) (fun _=>0) (fun _=>0) (fun _=>0) (fun _=>0) (fun _=>0) vf ve z.b0 (z.bm 0) (z.bm 1) (z.bm 2) (z.bm 3) z.b5 z.b6 z.b7 z.b8 (gH z ve s T) (cq (z.bm 0) 0 (s.ms 0)) (cq (z.bm 1) 1 (s.ms 1)) (cq (z.bm 2) 2 (s.ms 2)) (cq (z.bm 3) 3 (s.ms 3)) (cR vf s.bS) ?_;unfold C5;rw [NU (show s.now+d<2^64 by omega)];have g0:Keys {s with now:=s.now+d}:=⟨hk.m,hk.s⟩;refine⟨_,swap (Dd.oS (z.bm 0) 0 (s.now+d) (by decide) (s.ms 0) (hk.m 0 (by decide)) (by omega)),?_⟩;rintro v hs ⟨w0,w1,w2,r,e',⟨rfl,q,hq,rfl⟩,ht,rfl⟩;refine⟨w0,w1,w2,0,_,_,rfl,rfl,?_⟩;obtain⟨s1,h1,a1⟩:=hN 0 _ (by decide) h0 q hq;have f1:mD (tick zK 0 (s.ms 0) (s.now+d) q):=qY (hk.m 0 (by decide)) q hq.mC;have g1:Keys s1:=g0.after a1 f1;have k1:=fp (by decide) a1 f1 ht z.b0 z.b5 z.b6 z.b7 z.b8 (T+0) z.bm vf ve w0 w1 w2 (hF 0 _ h0) (by omega);refine⟨_,k1,?_⟩;rintro v hs ⟨rfl,Zb,Zc,rfl⟩;refine⟨Zb,Zc,false,cR Zb s1.bS,gH z Zc s1 (T+4),rfl,(by rw [a1.now,a1.dl]),?_⟩;refine⟨_,swap (Dd.oS (z.bm 1) 1 (s.now+d) (by decide) (s.ms 1) (hk.m 1 (by decide)) (by omega)),?_⟩;rintro v hs ⟨w0,w1,w2,r,e',⟨rfl,q,hq,rfl⟩,ht,rfl⟩;refine⟨w0,w1,w2,0,_,_,rfl,rfl,?_⟩;obtain⟨s2,h2,a2⟩:=hN 1 _ (by decide) h1 q hq;have e1:s1.ms 1=s.ms 1:=by rw [a1.ms];rfl
 have n1:s1.now=s.now+d:=by rw [a1.now]
 have l1:s1.dl=s.dl:=by rw [a1.dl]
 rw [e1,n1]at a2;have f2:mD (tick zK 1 (s.ms 1) (s.now+d) q):=qY (hk.m 1 (by decide)) q hq.mC;have g2:Keys s2:=g1.after a2 f2;have k2:=fp (by decide) a2 f2 ht z.b0 z.b5 z.b6 z.b7 z.b8 (T+4) z.bm Zb Zc w0 w1 w2 (hF 1 _ h1) (by omega);rw [n1,l1]at k2;refine⟨_,k2,?_⟩;rintro v hs ⟨rfl,Zd,Ze,rfl⟩;refine⟨Zd,Ze,false,cR Zd s2.bS,gH z Ze s2 (T+8),rfl,(by rw [a2.now,a2.dl];simp only [n1,l1]),?_⟩;refine⟨_,swap (Dd.oS (z.bm 2) 2 (s.now+d) (by decide) (s.ms 2) (hk.m 2 (by decide)) (by omega)),?_⟩;rintro v hs ⟨w0,w1,w2,r,e',⟨rfl,q,hq,rfl⟩,ht,rfl⟩;refine⟨w0,w1,w2,0,_,_,rfl,rfl,?_⟩;obtain⟨s3,h3,a3⟩:=hN 2 _ (by decide) h2 q hq;have e2:s2.ms 2=s.ms 2:=by rw [a2.ms,a1.ms];rfl
 have n2:s2.now=s.now+d:=by rw [a2.now,a1.now]
 have l2:s2.dl=s.dl:=by rw [a2.dl,a1.dl]
 rw [e2,n2]at a3;have f3:mD (tick zK 2 (s.ms 2) (s.now+d) q):=qY (hk.m 2 (by decide)) q hq.mC;have g3:Keys s3:=g2.after a3 f3;have k3:=fp (by decide) a3 f3 ht z.b0 z.b5 z.b6 z.b7 z.b8 (T+8) z.bm Zd Ze w0 w1 w2 (hF 2 _ h2) (by omega);rw [n2,l2]at k3;refine⟨_,k3,?_⟩;rintro v hs ⟨rfl,Zf,Zg,rfl⟩;refine⟨Zf,Zg,false,cR Zf s3.bS,gH z Zg s3 (T+12),rfl,(by rw [a3.now,a3.dl];simp only [n2,l2]),?_⟩;refine⟨_,swap (Dd.oS (z.bm 3) 3 (s.now+d) (by decide) (s.ms 3) (hk.m 3 (by decide)) (by omega)),?_⟩;rintro v hs ⟨w0,w1,w2,r,e',⟨rfl,q,hq,rfl⟩,ht,rfl⟩;refine⟨w0,w1,w2,0,_,_,rfl,rfl,?_⟩;obtain⟨s4,h4,a4⟩:=hN 3 _ (by decide) h3 q hq;have e3:s3.ms 3=s.ms 3:=by rw [a3.ms,a2.ms,a1.ms];rfl
 have n3:s3.now=s.now+d:=by rw [a3.now,a2.now,a1.now]
 have l3:s3.dl=s.dl:=by rw [a3.dl,a2.dl,a1.dl]
 rw [e3,n3]at a4;have f4:mD (tick zK 3 (s.ms 3) (s.now+d) q):=qY (hk.m 3 (by decide)) q hq.mC;have g4:Keys s4:=g3.after a4 f4;have k4:=fp (by decide) a4 f4 ht z.b0 z.b5 z.b6 z.b7 z.b8 (T+12) z.bm Zf Zg w0 w1 w2 (hF 3 _ h3) (by omega);rw [n3,l3]at k4;refine⟨_,k4,?_⟩;rintro v hs ⟨rfl,Zh,Zi,rfl⟩;refine⟨Zh,Zi,false,cR Zh s4.bS,gH z Zi s4 (T+16),rfl,(by rw [a4.now,a4.dl];simp only [n3,l3]),?_⟩;refine⟨rfl,s4,Zh,Zi,⟨h4,g4⟩,?_⟩;have n4:s4.now=s.now+d:=by rw [a4.now,n3]
 have l4:s4.dl=s.dl:=by rw [a4.dl,l3]
 simp only [four,Dm.iD,vd,n4,l4,a4.ms,a3.ms,a2.ms,a1.ms];exact aD.refl _
end Go.RX.Dn

namespace Go.RX.Sh
open Go.RX
def fb(x n:Nat):Nat:=x/2^n+x*2^(32 - n)%2^32
def s0(x:Nat):Nat:=fb x 7^^^fb x 18^^^x/2^3
def s1(x:Nat):Nat:=fb x 17^^^fb x 19^^^x/2^10
def S0(x:Nat):Nat:=fb x 2^^^fb x 13^^^fb x 22
def S1(x:Nat):Nat:=fb x 6^^^fb x 11^^^fb x 25
def ch(x y z:Nat):Nat:=(x &&& y)^^^((2^32 - 1 - x) &&& z)
def RC(x y z:Nat):Nat:=(x &&& y)^^^(x &&& z)^^^(y &&& z)
def word(B:Nat→Nat)(t:Nat):Nat:=((B (4*t)*256+B (4*t+1))*256+B (4*t+2))*256+B (4*t+3)
def fg(B:Nat→Nat):Nat→Nat→Nat
 | 0=>fun t=>if t<16 then word B t else 0
 | n+1=>fun t=>if t=n+16 then(s1 (fg B n (n+14))+fg B n (n+9)+s0 (fg B n (n+1))+fg B n n)%2^32 else fg B n t
def temp(v:Nat→Nat)(k w:Nat):Nat:=(v 7+S1 (v 4)+ch (v 4) (v 5) (v 6)+k+w)%2^32
def step(v:Nat→Nat)(k w j:Nat):Nat:=
 if j=0 then(temp v k w+(S0 (v 0)+RC (v 0) (v 1) (v 2))%2^32)%2^32
 else if j=4 then(v 3+temp v k w)%2^32
 else if j<8 then v (j - 1)else 0
theorem NV(v:Nat→Nat)(k w:Nat):step v k w 0=(temp v k w+(S0 (v 0)+RC (v 0) (v 1) (v 2))%2^32)%2^32:=by
 unfold step;rw [if_pos rfl]
theorem NW(v:Nat→Nat)(k w:Nat):step v k w 4=(v 3+temp v k w)%2^32:=by
 unfold step;rw [if_neg (by decide),if_pos rfl]
theorem kL(v:Nat→Nat)(k w:Nat){j:Nat}(h0:j≠0)(h4:j≠4)(h8:j<8):step v k w j=v (j - 1):=by
 unfold step;rw [if_neg h0,if_neg h4,if_pos h8]
def QH(K W H:Nat→Nat):Nat→Nat→Nat
 | 0=>H
 | n+1=>step (QH K W H n) (K n) (W n)
def comp(K H B:Nat→Nat)(j:Nat):Nat:=(H j+QH K (fg B 48) H 64 j)%2^32
theorem eZ{a b n:Nat}(ha:a<2^n)(hb:b<2^n):a^^^b<2^n:=Nat.xor_lt_two_pow ha hb
theorem e8{a b n:Nat}(ha:a<2^n):a &&& b<2^n:=Nat.lt_of_le_of_lt Nat.and_le_left ha
theorem cu{x n:Nat}(hx:x<2^32)(hn:n≤32):fb x n<2^32:=by
 unfold fb;have h1:x*2^(32 - n)%2^32=x%2^n*2^(32 - n):=by
  have:(2:Nat)^32=2^n*2^(32 - n):=by rw [←Nat.pow_add];congr 1;omega
  rw [this,Nat.mul_mod_mul_right]
 rw [h1];have h2:x/2^n<2^(32 - n):=by
  apply Nat.div_lt_of_lt_mul;rw [←Nat.pow_add]
  rwa [show n+(32 - n)=32 by omega]
 have h3:x%2^n<2^n:=Nat.mod_lt _ (Nat.two_pow_pos n);have h4:(x%2^n+1)*2^(32 - n)≤2^n*2^(32 - n):=Nat.mul_le_mul_right _ h3;rw [←Nat.pow_add,show n+(32 - n)=32 by omega,Nat.add_mul]at h4;omega
theorem QI{x n:Nat}(hx:x<2^32)(hn:n≤32):(x >>> n)|||(x*2^(32 - n)%2^32)=fb x n:=by
 unfold fb;have h1:x*2^(32 - n)%2^32=2^(32 - n)*(x%2^n):=by
  have:(2:Nat)^32=2^n*2^(32 - n):=by rw [←Nat.pow_add];congr 1;omega
  rw [this,Nat.mul_mod_mul_right,Nat.mul_comm]
 have h2:x/2^n<2^(32 - n):=by
  apply Nat.div_lt_of_lt_mul;rw [←Nat.pow_add]
  rwa [show n+(32 - n)=32 by omega]
 rw [h1,Nat.shiftRight_eq_div_pow,Nat.or_comm,←Nat.two_pow_add_eq_or_of_lt h2,Nat.add_comm]
theorem wrap_u32(n:Nat):ae .u32 (n:Int)=((n%2^32:Nat):Int):=by
 simp [ae,IntKind.signed,IntKind.bits]
theorem wrap_u64(n:Nat):ae .u64 (n:Int)=((n%2^64:Nat):Int):=by
 simp [ae,IntKind.signed,IntKind.bits]
theorem wrap_u8(n:Nat):ae .u8 (n:Int)=((n%2^8:Nat):Int):=by
 simp [ae,IntKind.signed,IntKind.bits]
theorem d_(w n:Nat):(aev w (n:Int)).toNat=n%2^w:=by
 simp
theorem wk{a b:Nat}(ha:a<2^32)(hb:b<2^32):ax .cr .u32 (a:Int) (b:Int)=((a^^^b:Nat):Int):=by
 show ae .u32 ((aev 32 (a:Int)^^^aev 32 (b:Int)).toNat:Int)=_;rw [wrap_u32,BitVec.toNat_xor,d_,d_,Nat.mod_eq_of_lt ha,Nat.mod_eq_of_lt hb,Nat.mod_eq_of_lt (eZ ha hb)]
theorem E5{a b:Nat}(ha:a<2^32)(hb:b<2^32):ax .eT .u32 (a:Int) (b:Int)=((a &&& b:Nat):Int):=by
 show ae .u32 ((aev 32 (a:Int) &&& aev 32 (b:Int)).toNat:Int)=_;rw [wrap_u32,BitVec.toNat_and,d_,d_,Nat.mod_eq_of_lt ha,Nat.mod_eq_of_lt hb,Nat.mod_eq_of_lt (e8 ha)]
theorem VH{a b:Nat}(ha:a<2^32)(hb:b<2^32):ax .na .u32 (a:Int) (b:Int)=((a|||b:Nat):Int):=by
 show ae .u32 ((aev 32 (a:Int)|||aev 32 (b:Int)).toNat:Int)=_;rw [wrap_u32,BitVec.toNat_or,d_,d_,Nat.mod_eq_of_lt ha,Nat.mod_eq_of_lt hb,Nat.mod_eq_of_lt (Nat.or_lt_two_pow ha hb)]
theorem VI{a b:Nat}(ha:a<2^64)(hb:b<2^64):ax .cr .u64 (a:Int) (b:Int)=((a^^^b:Nat):Int):=by
 show ae .u64 ((aev 64 (a:Int)^^^aev 64 (b:Int)).toNat:Int)=_;rw [wrap_u64,BitVec.toNat_xor,d_,d_,Nat.mod_eq_of_lt ha,Nat.mod_eq_of_lt hb,Nat.mod_eq_of_lt (eZ ha hb)]
theorem VJ{a b:Nat}(ha:a<2^64)(hb:b<2^64):ax .eT .u64 (a:Int) (b:Int)=((a &&& b:Nat):Int):=by
 show ae .u64 ((aev 64 (a:Int) &&& aev 64 (b:Int)).toNat:Int)=_;rw [wrap_u64,BitVec.toNat_and,d_,d_,Nat.mod_eq_of_lt ha,Nat.mod_eq_of_lt hb,Nat.mod_eq_of_lt (e8 ha)]
theorem xH(k:IntKind)(a n:Nat)(hn:n≤k.bits):ax .shr k (a:Int) (n:Int)=((a >>> n:Nat):Int):=by
 show Int.fdiv (a:Int) (2^(min (n:Int).toNat k.bits))=_;rw [Int.toNat_natCast,Nat.min_eq_left hn,Nat.shiftRight_eq_div_pow,Int.fdiv_eq_ediv_of_nonneg _ (by exact Int.le_of_lt (Int.pow_pos (by decide)))];rw [Int.natCast_ediv,Int.natCast_pow];rfl
theorem RD(a n:Nat)(hn:n≤32):ax .shl .u32 (a:Int) (n:Int)=((a*2^n%2^32:Nat):Int):=by
 show ae .u32 ((a:Int)*2^(min (n:Int).toNat 32))=_;rw [Int.toNat_natCast,Nat.min_eq_left hn];have:(a:Int)*2^n=((a*2^n:Nat):Int):=by rw [Int.natCast_mul,Int.natCast_pow];rfl
 rw [this,wrap_u32]
theorem E6{x n:Nat}(hx:x<2^32)(hn:n≤32):ax .na .u32 (ax .shr .u32 (x:Int) (n:Int)) (ax .shl .u32 (x:Int) ((32 - n:Nat):Int))=((fb x n:Nat):Int):=by
 rw [xH .u32 x n hn,RD x (32 - n) (by omega),VH (Nat.lt_of_le_of_lt (by rw [Nat.shiftRight_eq_div_pow];exact Nat.div_le_self _ _) hx) (Nat.mod_lt _ (by decide)),QI hx hn]
theorem qZ{x n:Nat}(hx:x<2^32):x/2^n<2^32:=Nat.lt_of_le_of_lt (Nat.div_le_self _ _) hx
theorem VK{x:Nat}(hx:x<2^32):s0 x<2^32:=eZ (eZ (cu hx (by decide)) (cu hx (by decide))) (qZ hx)
theorem VL{x:Nat}(hx:x<2^32):s1 x<2^32:=eZ (eZ (cu hx (by decide)) (cu hx (by decide))) (qZ hx)
theorem VM{x:Nat}(hx:x<2^32):S0 x<2^32:=eZ (eZ (cu hx (by decide)) (cu hx (by decide))) (cu hx (by decide))
theorem VN{x:Nat}(hx:x<2^32):S1 x<2^32:=eZ (eZ (cu hx (by decide)) (cu hx (by decide))) (cu hx (by decide))
theorem VO{x y z:Nat}(hx:x<2^32):ch x y z<2^32:=eZ (e8 hx) (e8 (by omega))
theorem Tt{x y z:Nat}(hx:x<2^32)(hy:y<2^32):RC x y z<2^32:=eZ (eZ (e8 hx) (e8 hx)) (e8 hy)
theorem pS{x a b c:Nat}(hx:x<2^32)(ha:a≤32)(hb:b≤32)(hc:c≤32):
  ax .cr .u32 (ax .cr .u32 (ax .na .u32 (ax .shr .u32 (x:Int) (a:Int)) (ax .shl .u32 (x:Int) ((32 - a:Nat):Int))) (ax .na .u32 (ax .shr .u32 (x:Int) (b:Int)) (ax .shl .u32 (x:Int) ((32 - b:Nat):Int))))
   (ax .na .u32 (ax .shr .u32 (x:Int) (c:Int)) (ax .shl .u32 (x:Int) ((32 - c:Nat):Int)))=((fb x a^^^fb x b^^^fb x c:Nat):Int):=by
 rw [E6 hx ha,E6 hx hb,E6 hx hc,wk (cu hx ha) (cu hx hb),wk (eZ (cu hx ha) (cu hx hb)) (cu hx hc)]
theorem ps{x a b c:Nat}(hx:x<2^32)(ha:a≤32)(hb:b≤32)(hc:c≤32):
  ax .cr .u32 (ax .cr .u32 (ax .na .u32 (ax .shr .u32 (x:Int) (a:Int)) (ax .shl .u32 (x:Int) ((32 - a:Nat):Int))) (ax .na .u32 (ax .shr .u32 (x:Int) (b:Int)) (ax .shl .u32 (x:Int) ((32 - b:Nat):Int))))
   (ax .shr .u32 (x:Int) (c:Int))=((fb x a^^^fb x b^^^x/2^c:Nat):Int):=by
 rw [E6 hx ha,E6 hx hb,xH .u32 x c hc,wk (cu hx ha) (cu hx hb),Nat.shiftRight_eq_div_pow,wk (eZ (cu hx ha) (cu hx hb)) (qZ hx)]
theorem Zj{x:Nat}(hx:x<2^32):ax .cr .u32 (ax .cr .u32 (ax .na .u32 (ax .shr .u32 (x:Int) 7) (ax .shl .u32 (x:Int) 25)) (ax .na .u32 (ax .shr .u32 (x:Int) 18) (ax .shl .u32 (x:Int) 14))) (ax .shr .u32 (x:Int) 3)=((s0 x:Nat):Int):=
 ps (a:=7) (b:=18) (c:=3) hx (by decide) (by decide) (by decide)
theorem Zk{x:Nat}(hx:x<2^32):ax .cr .u32 (ax .cr .u32 (ax .na .u32 (ax .shr .u32 (x:Int) 17) (ax .shl .u32 (x:Int) 15)) (ax .na .u32 (ax .shr .u32 (x:Int) 19) (ax .shl .u32 (x:Int) 13))) (ax .shr .u32 (x:Int) 10)=((s1 x:Nat):Int):=
 ps (a:=17) (b:=19) (c:=10) hx (by decide) (by decide) (by decide)
theorem Zl{x:Nat}(hx:x<2^32):ax .cr .u32 (ax .cr .u32 (ax .na .u32 (ax .shr .u32 (x:Int) 2) (ax .shl .u32 (x:Int) 30)) (ax .na .u32 (ax .shr .u32 (x:Int) 13) (ax .shl .u32 (x:Int) 19))) (ax .na .u32 (ax .shr .u32 (x:Int) 22) (ax .shl .u32 (x:Int) 10))=((S0 x:Nat):Int):=
 pS (a:=2) (b:=13) (c:=22) hx (by decide) (by decide) (by decide)
theorem Zm{x:Nat}(hx:x<2^32):ax .cr .u32 (ax .cr .u32 (ax .na .u32 (ax .shr .u32 (x:Int) 6) (ax .shl .u32 (x:Int) 26)) (ax .na .u32 (ax .shr .u32 (x:Int) 11) (ax .shl .u32 (x:Int) 21))) (ax .na .u32 (ax .shr .u32 (x:Int) 25) (ax .shl .u32 (x:Int) 7))=((S1 x:Nat):Int):=
 pS (a:=6) (b:=11) (c:=25) hx (by decide) (by decide) (by decide)
theorem VP{x:Nat}(hx:x<2^32):(4294967295:Nat)^^^x=2^32 - 1 - x:=by
 have h:=Nat.xor_comm 4294967295 x;apply Nat.eq_of_testBit_eq;intro i;rw [Nat.testBit_xor,show(4294967295:Nat)=2^32 - 1 from rfl,Nat.testBit_two_pow_sub_one,show 2^32 - 1 - x=2^32 - (x+1) by omega,Nat.testBit_two_pow_sub_succ hx];by_cases hi:i<32
 ·simp [hi]
 ·have:x.testBit i=false:=Nat.testBit_lt_two_pow (adT hx (Nat.pow_le_pow_right (by decide) (by omega)));simp [hi,this]
theorem Zn{x y z:Nat}(hx:x<2^32)(hy:y<2^32)(hz:z<2^32):ax .cr .u32 (ax .eT .u32 (x:Int) (y:Int)) (ax .eT .u32 (ax .cr .u32 4294967295 (x:Int)) (z:Int))=((ch x y z:Nat):Int):=by
 have h1:ax .cr .u32 4294967295 (x:Int)=((2^32 - 1 - x:Nat):Int):=by
  rw [←VP hx];exact wk (a:=4294967295) (by decide) hx
 rw [h1,E5 hx hy,E5 (by omega) hz,wk (e8 hx) (e8 (by omega))];rfl
theorem VQ{x y z:Nat}(hx:x<2^32)(hy:y<2^32)(hz:z<2^32):ax .cr .u32 (ax .cr .u32 (ax .eT .u32 (x:Int) (y:Int)) (ax .eT .u32 (x:Int) (z:Int))) (ax .eT .u32 (y:Int) (z:Int))=((RC x y z:Nat):Int):=by
 rw [E5 hx hy,E5 hx hz,E5 hy hz,wk (e8 hx) (e8 hx),wk (eZ (e8 hx) (e8 hx)) (e8 hy)];rfl
theorem qt(a b:Nat):ae .u32 ((a:Int)+(b:Int))=(((a+b)%2^32:Nat):Int):=by rw [←Int.natCast_add,wrap_u32]
theorem Hl{B:Nat→Nat}(hB: ∀j,j<64→B j<256): ∀(n t:Nat),fg B n t<2^32
 | 0,t=>by
  unfold fg;split
  ·rename_i h;have h0:=hB (4*t) (by omega);have h1:=hB (4*t+1) (by omega);have h2:=hB (4*t+2) (by omega);have h3:=hB (4*t+3) (by omega);unfold word;omega
  ·decide
 | n+1,t=>by
  unfold fg;split
  ·exact Nat.mod_lt _ (by decide)
  ·exact Hl hB n t
theorem QJ{v:Nat→Nat}(hv: ∀j,j<8→v j<2^32)(k w:Nat)(j:Nat)(hj:j<8):step v k w j<2^32:=by
 have hp:0<2^32:=Nat.two_pow_pos 32;unfold step;split
 ·exact Nat.mod_lt _ hp
 ·split
  ·exact Nat.mod_lt _ hp
  ·exact hv _ (by omega)
theorem Hm{K W H:Nat→Nat}(hH: ∀j,j<8→H j<2^32): ∀n j,j<8→QH K W H n j<2^32
 | 0=>hH
 | n+1=>QJ (Hm hH n) _ _
theorem IV{K H B:Nat→Nat}(j:Nat):comp K H B j<2^32:=Nat.mod_lt _ (by decide)
def fill(B:Nat→Nat):Nat→Nat→Nat
 | 0=>fun _=>0
 | i+1=>fun t=>if t=i/4 then(fill B i (i/4)*256%2^32)|||B i else fill B i t
def part(B:Nat→Nat)(t:Nat):Nat→Nat
 | 0=>0
 | k+1=>part B t k*256+B (4*t+k)
theorem IW{B:Nat→Nat}{t:Nat}(hB: ∀j,j<64→B j<256)(ht:t<16): ∀k,k≤4→part B t k<256^k
 | 0,_=>by simp [part]
 | k+1,hk=>by
  have:=IW hB ht k (by omega);have h:=hB (4*t+k) (by omega);unfold part;rw [Nat.pow_succ];omega
theorem vg{B:Nat→Nat}(hB: ∀j,j<64→B j<256): ∀(i t:Nat),i≤64→fill B i t=if 4*t+4≤i then part B t 4 else if 4*t<i then part B t (i - 4*t)else 0
 | 0,t,_=>by
  rw [if_neg (by omega),if_neg (by omega)];rfl
 | i+1,t,hi=>by
  unfold fill;split
  ·rename_i ht;subst ht;have ih:=vg hB i (i/4) (by omega);have hi4:i=4*(i/4)+(i - 4*(i/4)):=by omega
   have hk:i - 4*(i/4)<4:=by omega
   generalize hq:i/4=q at*;obtain⟨k,cT⟩: ∃k,k=i - 4*q:=⟨_,rfl⟩;have VR:fill B i q=part B q k:=by
    rw [ih,if_neg (by omega)];split
    ·rw [cT]
    ·have:k=0:=by omega
     rw [this];rfl
   have hp:=IW hB (show q<16 by omega) k (by omega);have hb:=hB i (by omega);have ab_:(256:Nat)^k≤256^3:=Nat.pow_le_pow_right (by decide) (by omega);rw [VR,Nat.mod_eq_of_lt (by omega),show part B q k*256=2^8*part B q k by omega,←Nat.two_pow_add_eq_or_of_lt (by omega)];have hpk:2^8*part B q k+B i=part B q (k+1):=by
    rw [part,show 4*q+k=i by omega];omega
   rw [hpk];by_cases h4:4*q+4≤i+1
   ·rw [if_pos h4,show k+1=4 by omega]
   ·rw [if_neg h4,if_pos (by omega),show i+1 - 4*q=k+1 by omega]
  ·rename_i ht;rw [vg hB i t (by omega)];by_cases h4:4*t+4≤i
   ·rw [if_pos h4,if_pos (by omega)]
   ·have h5: ¬4*t<i:=by omega
    rw [if_neg h4,if_neg h5,if_neg (by omega),if_neg (by omega)]
theorem NX{B:Nat→Nat}(hB: ∀j,j<64→B j<256)(t:Nat):fill B 64 t=fg B 0 t:=by
 rw [vg hB 64 t (Nat.le_refl _)];unfold fg;by_cases ht:t<16
 ·rw [if_pos ht,if_pos (by omega)];simp only [part,word,Nat.add_zero,Nat.zero_mul,Nat.zero_add]
 ·rw [if_neg ht,if_neg (by omega),if_neg (by omega)]
end Go.RX.Sh
