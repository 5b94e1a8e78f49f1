/- SHA-256. -/
import Derived.Test.YtphemenngjkfbaaM43
import Derived.Test.YtphemenngjkfbaaShG
open Go.IntKind renaming u8 → adG, wrap → ae
open Go.Proofs.Try renaming prog → adY
open List renaming getElem?_append_left → adO, getElem?_append_right → adQ, getElem?_eq_getElem → ad9, getElem?_eq_some_iff → adJ
open Option.some renaming injEq → adK
namespace Go.RX
theorem aD.idx{a b:List HP}(idx:List Nat)(fY:idx.Nodup)(h: ∀(j:Nat) x,b[j]? =some x→∃i,idx[j]? =some i∧a[i]? =some x):aD a b:=by
 intro w Fs o;refine o.rI (fun j=>if j<b.length then idx[j]? else some (a.length+(j - b.length))) ?_ ?_
 ·intro j x hx;right;by_cases hj:j<b.length
  ·rw [adO hj]at hx;obtain⟨i,h1,h2⟩:=h j x hx;refine⟨i,by simp only [hj,if_true,h1],?_⟩;rw [adO (adJ.1 h2).1];exact h2
  ·rw [adQ (by omega)]at hx;refine⟨_,by simp only [hj,if_false];rfl,?_⟩;rw [adQ (by omega),Nat.add_sub_cancel_left];exact hx
 ·intro j j' i hj ky _ _;by_cases h1:j<b.length
  ·have hx:b[j]? =some b[j]:=ad9 h1;obtain⟨i1,q1,q2⟩:=h j _ hx;have FN:=(adJ.1 q2).1;simp only [h1,if_true,q1,adK]at hj;subst hj;by_cases h2:j'<b.length
   ·simp only [h2,if_true]at ky;obtain⟨l1,e1⟩:=adJ.1 q1;obtain⟨l2,e2⟩:=adJ.1 ky;exact(List.getElem_inj fY).1 (e1.trans e2.symm)
   ·simp only [h2,if_false,adK]at ky;omega
  ·simp only [h1,if_false,adK]at hj;by_cases h2:j'<b.length
   ·have hx:b[j']? =some b[j']:=ad9 h2;obtain⟨i1,q1,q2⟩:=h j' _ hx;have FN:=(adJ.1 q2).1;simp only [h2,if_true,q1,adK]at ky;omega
   ·simp only [h2,if_false,adK]at ky;omega
theorem aD.at3{a:List HP}{i j k:Nat}{x y z:HP}(hi:a[i]? =some x)(hj:a[j]? =some y)(hk:a[k]? =some z)(hn:[i,j,k].Nodup):aD a [x,y,z]:=by
 refine aD.idx [i,j,k] hn fun m u hu=>?_
 match m,hu with
 | 0,hu=>cases hu;exact⟨i,rfl,hi⟩
 | 1,hu=>cases hu;exact⟨j,rfl,hj⟩
 | 2,hu=>cases hu;exact⟨k,rfl,hk⟩
 | m+3,hu=>simp at hu
end Go.RX
namespace Go.RX.Sh
open Go.RX Go.Proofs
set_option maxRecDepth 100000 in
theorem oV:aq adY 111 [] [] (fun r hs=> ∃b:Nat,∃vh vk:V1,∃A B:Nat→Int,r= .pointer (some ⟨b,0,none⟩)∧
  hs=[aB true 107 1 vh.v 8 (aH 8 [au .u32 1 A]),aB true 107 1 vk.v 64 (aH 64 [au .u32 1 B]),Oh b vh vk]∧(∀j,j<8→A j=((H0 j:Nat):Int))∧∀j,j<64→B j=((K0 j:Nat):Int)):=by
 refine aq.post (p:=fun r hs=> ∃b:Nat,∃vh vk:V1,∃A B:Nat→Int,r= .pointer (some ⟨b,0,none⟩)∧hs[2]? =some (aB true 107 1 vh.v 8 (aH 8 [au .u32 1 A]))∧hs[12]? =some (aB true 107 1 vk.v 64 (aH 64 [au .u32 1 B]))∧
  hs[76]? =some (Oh b vh vk)∧(∀j,j<8→A j=((H0 j:Nat):Int))∧∀j,j<64→B j=((K0 j:Nat):Int)) ?_ ?_
 ·refine aq.eA (C:=cx) (aQ:={}) (ρ:={}) pA gw pB Try.func111 (by constructor<;>rfl) (args:=[]) (hp:=[]) ?_;rw [show cC cx 111 [] [] {} Try.f111=vi from Hu,Lc];unfold Bs
  intros
  exact⟨_,_,_,_,_,rfl,rfl,rfl,rfl,by decide+kernel,by decide+kernel⟩
 ·rintro r hs ⟨b,vh,vk,A,B,rfl,h1,h2,h3,h4,h5⟩;exact⟨_,aD.at3 h1 h2 h3 (by decide),b,vh,vk,A,B,rfl,rfl,h4,h5⟩
abbrev xJ(b0 b1 b2 b3 b4 b5:Nat)(A0 A1 A2:Nat→Int)(x0 x1 x2 x3:Int):List HP:=
 [ak b0 false ([.int .u8 104,.int .u8 97,.int .u8 105,.int .u8 108,.int .u8 101,.int .u8 114,.int .u8 32,.int .u8 109,.int .u8 101,.int .u8 100,.int .u8 105,.int .u8 97]),ak b1 true (al .u8 16 A0++([])),ak b2 true (al .u8 32 A1++([])),ak b3 true (al .u8 32 A2++([])),ak b4 true ([.int .u8 x0,.int .u8 x1,.int .u8 x2,.int .u8 x3]),ak b5 true ([.slice (some ⟨b0,0,none⟩) 12 12,.slice (some ⟨b1,0,none⟩) 16 16,.slice (some ⟨b2,0,none⟩) 32 32,.slice (some ⟨b3,0,none⟩) 32 32,.slice (some ⟨b4,0,none⟩) 4 4])]
theorem Hv{A0 A1 A2:Nat→Int}{I O N:Nat→Nat}{d0 d1 d2 d3:Nat}(h0: ∀j,j<16→A0 j=(I j:Nat))(h1: ∀j,j<32→A1 j=(O j:Nat))(h2: ∀j,j<32→A2 j=(N j:Nat))(j:Nat)(hj:j<92):
  (aW (aW (aW (aj (aj (aj (aj (aj (aj (aj (aj (aj (aj (aj (aj (fun _=>0) 0 104) 1 97) 2 105) 3 108) 4 101) 5 114) 6 32) 7 109) 8 101) 9 100) 10 105) 11 97) 12 16 A0) 28 32 A1) 60 32 A2) j=((msg I O N d0 d1 d2 d3 j:Nat):Int):=by
 unfold msg aW;by_cases c1:j<12
 ·rw [if_neg (by omega),if_neg (by omega),if_neg (by omega),if_pos c1];have:j=0∨j=1∨j=2∨j=3∨j=4∨j=5∨j=6∨j=7∨j=8∨j=9∨j=10∨j=11:=by omega
  rcases this with rfl | rfl | rfl | rfl | rfl | rfl | rfl | rfl | rfl | rfl | rfl | rfl<;>rfl
 by_cases c2:j<28
 ·rw [if_neg (by omega),if_neg (by omega),if_pos (by omega),if_neg c1,if_pos c2];exact h0 _ (by omega)
 by_cases c3:j<60
 ·rw [if_neg (by omega),if_pos (by omega),if_neg c1,if_neg c2,if_pos c3];exact h1 _ (by omega)
 ·rw [if_pos (by omega),if_neg c1,if_neg c2,if_neg c3,if_pos hj];exact h2 _ (by omega)
theorem bE{f:Nat→Int}{i j:Nat}{x:Int}(h:j≠i):aj f i x j=f j:=by
 unfold aj;rw [if_neg h]
theorem uc{f g:Nat→Int}{k n j:Nat}(h:j<k∨k+n≤j):aW f k n g j=f j:=by
 unfold aW;rw [if_neg (by omega)]
theorem Fk{f:Nat→Int}{I O N:Nat→Nat}{d0 d1 d2 d3:Nat}(hf: ∀j,j<92→f j=((msg I O N d0 d1 d2 d3 j:Nat):Int))(j:Nat)(hj:j<64):
  (aW (aj (aj (aj (aj (aj (aj (aj (aj (aj (aj (aj (aj (aj (aj (aj (aj (aj (aj (aj (aj (aj (aj (aj (aW (aW (aP f 64) 28 4 (aj (aj (aj (aj (fun _=>0) 0 (d0:Int)) 1 (d1:Int)) 2 (d2:Int)) 3 (d3:Int))) 32 1 (aj (fun _=>0) 0 128)) 33 0) 34 0) 35 0) 36 0) 37 0) 38 0) 39 0) 40 0) 41 0) 42 0) 43 0) 44 0) 45 0) 46 0) 47 0) 48 0) 49 0) 50 0) 51 0) 52 0) 53 0) 54 0) 55 0) 56 8 (aj (aj (aj (aj (aj (aj (aj (aj (fun _=>0) 7 0) 6 3) 5 0) 4 0) 3 0) 2 0) 1 0) 0 0)) j=((msg I O N d0 d1 d2 d3 (64+j):Nat):Int):=by
 by_cases c:j<28
 ·rw [←hf (64+j) (by omega)];rw [uc (by omega)];rw [bE (by omega),bE (by omega),bE (by omega),bE (by omega),bE (by omega),bE (by omega),bE (by omega),bE (by omega),bE (by omega),bE (by omega),bE (by omega),bE (by omega),bE (by omega),bE (by omega),bE (by omega),bE (by omega),bE (by omega),bE (by omega),bE (by omega),bE (by omega),bE (by omega),bE (by omega),bE (by omega)];rw [uc (by omega),uc (by omega)];rfl
 ·have:j=28∨j=29∨j=30∨j=31∨j=32∨j=33∨j=34∨j=35∨j=36∨j=37∨j=38∨j=39∨j=40∨j=41∨j=42∨j=43∨j=44∨j=45∨j=46∨j=47∨j=48∨j=49∨j=50∨j=51∨j=52∨j=53∨j=54∨j=55∨j=56∨j=57∨j=58∨j=59∨j=60∨j=61∨j=62∨j=63:=by omega
  clear hj c;rcases this with rfl | rfl | rfl | rfl | rfl | rfl | rfl | rfl | rfl | rfl | rfl | rfl | rfl | rfl | rfl | rfl | rfl | rfl | rfl | rfl | rfl | rfl | rfl | rfl | rfl | rfl | rfl | rfl | rfl | rfl | rfl | rfl | rfl | rfl | rfl | rfl<;>rfl
theorem RG{A:Nat→Int}{C:Nat→Nat}(h: ∀j,j<8→A j=((C j:Nat):Int))(j:Nat)(hj:j<32):
  (aj (aj (aj (aj (aj (aj (aj (aj (aj (aj (aj (aj (aj (aj (aj (aj (aj (aj (aj (aj (aj (aj (aj (aj (aj (aj (aj (aj (aj (aj (aj (aj (fun _=>0) 0 (ae .u8 (ax .shr .u32 (A 0) 24))) 1 (ae .u8 (ax .shr .u32 (A 0) 16))) 2 (ae .u8 (ax .shr .u32 (A 0) 8))) 3 (ae .u8 (ax .shr .u32 (A 0) 0))) 4 (ae .u8 (ax .shr .u32 (A 1) 24))) 5 (ae .u8 (ax .shr .u32 (A 1) 16))) 6 (ae .u8 (ax .shr .u32 (A 1) 8))) 7 (ae .u8 (ax .shr .u32 (A 1) 0))) 8 (ae .u8 (ax .shr .u32 (A 2) 24))) 9 (ae .u8 (ax .shr .u32 (A 2) 16))) 10 (ae .u8 (ax .shr .u32 (A 2) 8))) 11 (ae .u8 (ax .shr .u32 (A 2) 0))) 12 (ae .u8 (ax .shr .u32 (A 3) 24))) 13 (ae .u8 (ax .shr .u32 (A 3) 16))) 14 (ae .u8 (ax .shr .u32 (A 3) 8))) 15 (ae .u8 (ax .shr .u32 (A 3) 0))) 16 (ae .u8 (ax .shr .u32 (A 4) 24))) 17 (ae .u8 (ax .shr .u32 (A 4) 16))) 18 (ae .u8 (ax .shr .u32 (A 4) 8))) 19 (ae .u8 (ax .shr .u32 (A 4) 0))) 20 (ae .u8 (ax .shr .u32 (A 5) 24))) 21 (ae .u8 (ax .shr .u32 (A 5) 16))) 22 (ae .u8 (ax .shr .u32 (A 5) 8))) 23 (ae .u8 (ax .shr .u32 (A 5) 0))) 24 (ae .u8 (ax .shr .u32 (A 6) 24))) 25 (ae .u8 (ax .shr .u32 (A 6) 16))) 26 (ae .u8 (ax .shr .u32 (A 6) 8))) 27 (ae .u8 (ax .shr .u32 (A 6) 0))) 28 (ae .u8 (ax .shr .u32 (A 7) 24))) 29 (ae .u8 (ax .shr .u32 (A 7) 16))) 30 (ae .u8 (ax .shr .u32 (A 7) 8))) 31 (ae .u8 (ax .shr .u32 (A 7) 0))) j=((bytesOf C j:Nat):Int):=by
 rw [h 0 (by omega),h 1 (by omega),h 2 (by omega),h 3 (by omega),h 4 (by omega),h 5 (by omega),h 6 (by omega),h 7 (by omega)];have:j=0∨j=1∨j=2∨j=3∨j=4∨j=5∨j=6∨j=7∨j=8∨j=9∨j=10∨j=11∨j=12∨j=13∨j=14∨j=15∨j=16∨j=17∨j=18∨j=19∨j=20∨j=21∨j=22∨j=23∨j=24∨j=25∨j=26∨j=27∨j=28∨j=29∨j=30∨j=31:=by omega
 clear hj h;rcases this with rfl | rfl | rfl | rfl | rfl | rfl | rfl | rfl | rfl | rfl | rfl | rfl | rfl | rfl | rfl | rfl | rfl | rfl | rfl | rfl | rfl | rfl | rfl | rfl | rfl | rfl | rfl | rfl | rfl | rfl | rfl | rfl
 ·exact bW (C 0) 24 (by decide)
 ·exact bW (C 0) 16 (by decide)
 ·exact bW (C 0) 8 (by decide)
 ·exact bW (C 0) 0 (by decide)
 ·exact bW (C 1) 24 (by decide)
 ·exact bW (C 1) 16 (by decide)
 ·exact bW (C 1) 8 (by decide)
 ·exact bW (C 1) 0 (by decide)
 ·exact bW (C 2) 24 (by decide)
 ·exact bW (C 2) 16 (by decide)
 ·exact bW (C 2) 8 (by decide)
 ·exact bW (C 2) 0 (by decide)
 ·exact bW (C 3) 24 (by decide)
 ·exact bW (C 3) 16 (by decide)
 ·exact bW (C 3) 8 (by decide)
 ·exact bW (C 3) 0 (by decide)
 ·exact bW (C 4) 24 (by decide)
 ·exact bW (C 4) 16 (by decide)
 ·exact bW (C 4) 8 (by decide)
 ·exact bW (C 4) 0 (by decide)
 ·exact bW (C 5) 24 (by decide)
 ·exact bW (C 5) 16 (by decide)
 ·exact bW (C 5) 8 (by decide)
 ·exact bW (C 5) 0 (by decide)
 ·exact bW (C 6) 24 (by decide)
 ·exact bW (C 6) 16 (by decide)
 ·exact bW (C 6) 8 (by decide)
 ·exact bW (C 6) 0 (by decide)
 ·exact bW (C 7) 24 (by decide)
 ·exact bW (C 7) 16 (by decide)
 ·exact bW (C 7) 8 (by decide)
 ·exact bW (C 7) 0 (by decide)
theorem Hx(b0 b1 b2 b3 b4 b5:Nat)(A0 A1 A2:Nat→Int)(I O N:Nat→Nat)(d0 d1 d2 d3:Nat)(h0: ∀j,j<16→A0 j=(I j:Nat))(h1: ∀j,j<32→A1 j=(O j:Nat))(h2: ∀j,j<32→A2 j=(N j:Nat))
  (hI: ∀j,j<16→I j<256) (hO: ∀j,j<32→O j<256) (hN: ∀j,j<32→N j<256) (e0:d0<256) (e1:d1<256) (e2:d2<256) (e3:d3<256):
  aq adY 78 [.slice (some ⟨b5,0,none⟩) 5 5] (xJ b0 b1 b2 b3 b4 b5 A0 A1 A2 d0 d1 d2 d3)
   (fun r hs=> ∃A:Nat→Int,r= .agg (al .u8 32 A++([])).toArray∧hs=xJ b0 b1 b2 b3 b4 b5 A0 A1 A2 d0 d1 d2 d3∧∀j,j<32→A j=((sN (msg I O N d0 d1 d2 d3) j:Nat):Int)):=by
 refine aq.post (p:=fun r hs=> ∃gN,aD hs gN∧∃A:Nat→Int,r= .agg (al .u8 32 A++([])).toArray∧gN=xJ b0 b1 b2 b3 b4 b5 A0 A1 A2 d0 d1 d2 d3∧∀j,j<32→A j=((sN (msg I O N d0 d1 d2 d3) j:Nat):Int)) ?_ fun v hs h=>h
 refine aq.eA (C:=cx) (aQ:={i:=4,a:=3,b:=6}) (ρ:={iv:=[(d0:Int),(d1:Int),(d2:Int),(d3:Int)],av:=[A0,A1,A2],bv:=[b0,b1,b2,b3,b4,b5]}) pA gw pB Try.func78 (by constructor<;>rfl)
  (args:=[.sl 5 (.lit 0) 1 (.lit 5) (.lit 5)]) (hp:=RE) ?_
 rw [show cC cx 78 [.sl 5 (.lit 0) 1 (.lit 5) (.lit 5)] RE {i:=4,a:=3,b:=6} Try.f78=Cq from Om,QR];unfold I1;have hm: ∀j,msg I O N d0 d1 d2 d3 j<256:=Ol hI hO hN e0 e1 e2 e3;have t1:=Hv (d0:=d0) (d1:=d1) (d2:=d2) (d3:=d3) h0 h1 h2;intro b6;refine⟨_,oV,?_⟩;rintro r hs ⟨b,vh,vk,A,B,rfl,rfl,hA,hB⟩;refine⟨b,vh,vk,A,B,rfl,rfl,fun v2 v3 v4 v5=>⟨_,mY b vh vk v5 92 A B _ K0 H0 (msg I O N d0 d1 d2 d3) (by decide) hA I0 hB (fun j hj=>t1 j (by omega)) (fun j _=>hm j),?_⟩⟩;rintro r hs ⟨A5,rfl,rfl,Zx⟩;refine⟨A5,rfl,rfl,?_⟩
 intros
 refine⟨_,mY b vh vk _ 64 A5 B _ K0 (comp K0 H0 (msg I O N d0 d1 d2 d3)) (fun i=>msg I O N d0 d1 d2 d3 (64+i)) (by decide) Zx (fun j _=>IV j) hB (fun j hj=>Fk t1 j hj) (fun j _=>hm _),?_⟩;rintro r hs ⟨A6,rfl,rfl,hA6⟩;refine⟨A6,rfl,rfl,?_⟩
 intros
 exact⟨_,aD.sub (List.sublist_append_left (xJ b0 b1 b2 b3 b4 b5 A0 A1 A2 d0 d1 d2 d3) _),_,rfl,rfl,fun j hj=>RG hA6 j hj⟩
open Go.RX Go.Proofs
theorem wm(A0 A1 A2:Nat→Int)(I O N:Nat→Nat)(d0 d1 d2 d3:Nat)(h0: ∀j,j<16→A0 j=(I j:Nat))(h1: ∀j,j<32→A1 j=(O j:Nat))(h2: ∀j,j<32→A2 j=(N j:Nat))
  (hI: ∀j,j<16→I j<256) (hO: ∀j,j<32→O j<256) (hN: ∀j,j<32→N j<256) (e0:d0<256) (e1:d1<256) (e2:d2<256) (e3:d3<256):
  aq adY 44 [.agg (al .u8 16 A0++([])).toArray,.agg (al .u8 32 A1++([])).toArray,.agg (al .u8 32 A2++([])).toArray,.agg #[.int .u8 (d0:Int),.int .u8 (d1:Int)],.agg #[.int .u8 (d2:Int),.int .u8 (d3:Int)]] []
   (fun r hs=> ∃A:Nat→Int,r= .agg (al .u8 32 A++([])).toArray∧hs=[]∧∀j,j<32→A j=((sN (msg I O N d0 d1 d2 d3) j:Nat):Int)):=by
 refine aq.post (p:=fun r hs=> ∃A:Nat→Int,r= .agg (al .u8 32 A++([])).toArray∧∀j,j<32→A j=((sN (msg I O N d0 d1 d2 d3) j:Nat):Int)) ?_ fun v hs h=>⟨[],aD.sub (List.nil_sublist _),h.choose,h.choose_spec.1,rfl,h.choose_spec.2⟩
 refine aq.eA (C:=cx) (aQ:={i:=4,a:=3}) (ρ:={iv:=[(d0:Int),(d1:Int),(d2:Int),(d3:Int)],av:=[A0,A1,A2]}) pA gw pB Try.func44 (by constructor<;>rfl)
  (args:=([Go.RX.SV.agg [Go.RX.SV.aX (adG) 16 (Go.RX.E.aw 0)],Go.RX.SV.agg [Go.RX.SV.aX (adG) 32 (Go.RX.E.aw 1)],Go.RX.SV.agg [Go.RX.SV.aX (adG) 32 (Go.RX.E.aw 2)],Go.RX.SV.agg [Go.RX.SV.int (adG) (Go.RX.E.var 0),Go.RX.SV.int (adG) (Go.RX.E.var 1)],Go.RX.SV.agg [Go.RX.SV.int (adG) (Go.RX.E.var 2),Go.RX.SV.int (adG) (Go.RX.E.var 3)]])) (hp:=[]) ?_
 rw [show cC cx 44 ([Go.RX.SV.agg [Go.RX.SV.aX (adG) 16 (Go.RX.E.aw 0)],Go.RX.SV.agg [Go.RX.SV.aX (adG) 32 (Go.RX.E.aw 1)],Go.RX.SV.agg [Go.RX.SV.aX (adG) 32 (Go.RX.E.aw 2)],Go.RX.SV.agg [Go.RX.SV.int (adG) (Go.RX.E.var 0),Go.RX.SV.int (adG) (Go.RX.E.var 1)],Go.RX.SV.agg [Go.RX.SV.int (adG) (Go.RX.E.var 2),Go.RX.SV.int (adG) (Go.RX.E.var 3)]]) [] {i:=4,a:=3} Try.f44=zx from Ld,On];unfold Fm;intro b0 b1 b2 b3 b4 b5;have key:=fun x y z=>Hx x b0 b1 b2 y z A0 A1 A2 I O N d0 d1 d2 d3 h0 h1 h2 hI hO hN e0 e1 e2 e3
 refine⟨fun b6=>⟨fun b7 b8=>⟨_,key b6 b7 b8,?_⟩,fun b7 b8=>⟨_,key b6 b7 b8,?_⟩⟩,fun b6 b7 b8=>⟨_,key b7 b6 b8,?_⟩⟩<;>
 ·rintro r hs ⟨A,rfl,rfl,hA⟩;exact⟨A,rfl,rfl,A,rfl,hA⟩
end Go.RX.Sh
