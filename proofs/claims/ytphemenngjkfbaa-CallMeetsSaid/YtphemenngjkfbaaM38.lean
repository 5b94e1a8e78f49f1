/- The call machine. -/
import Derived.Test.YtphemenngjkfbaaM37
open Bool renaming and_eq_true → ai
open Decidable renaming not_not → ad5
open Go.Proofs.Try renaming prog → adY
open Int renaming toNat → ag
open List renaming append → adH, append_nil → adW, getD_cons_succ → aeg, getD_cons_zero → ah, mem_range → adU, range → aec
open Option renaming isSome_iff_exists → aew
namespace Go.RX.Dh
open Go.RX Go.Proofs Go.Cp Go.RX.Cs Go.RX.Ct Go.RX.Cu Go.RX.Cv Go.RX.Cw Go.RX.Cx Go.RX.Cy Go.RX.Cz Go.RX.Da Go.RX.Db Go.RX.Dc Go.RX.Dd
set_option maxRecDepth 100000
variable (b1 i:Nat) (m:Mc LI)
theorem xG{L:List HP}{x:MR}(hx:Is i m x):aD (cn b1 x::Mm.bB x.dead 256::dS i m x::L) [cq b1 i m]:=
 aD.trans (aD.sub (b:=B_ b1 i m x) (by simp [B_])) (xC hx)
theorem dF:aq adY 57 [.pointer (some ⟨b1,0,none⟩)] [cq b1 i m] fun rv hs=>(∃(A:Nat→Int) (p d:Int) (q:Bool),rv= .tuple #[.agg (adH (al .u8 16 A) ([])).toArray,.agg #[.int .u8 p,.int .u8 d],.bool q]∧q=(decide (m.ph≠0)&&m.out)∧(m.ph≠0→a_ A=m.c∧(0≤p∧p<2)∧(0≤d∧d<2)∧eh p d=m.peer))∧hs=[cq b1 i m]:=by
 refine k_ fun x hx=>aq.post (p:=fun rv hs=>(∃(A:Nat→Int) (p d:Int) (q:Bool),rv= .tuple #[.agg (adH (al .u8 16 A) ([])).toArray,.agg #[.int .u8 p,.int .u8 d],.bool q]∧q=(decide (m.ph≠0)&&m.out)∧(m.ph≠0→a_ A=m.c∧(0≤p∧p<2)∧(0≤d∧d<2)∧eh p d=m.peer))∧aD hs [cq b1 i m]) ?_ fun rv hs ⟨h1,h2⟩=>⟨_,h2,h1,rfl⟩
 have b0:Nat:=0;refine Qg _ x.a x.d x.st x.out x.ac x.pa x.pd x.h_ x.early x.aK x.cf x.since x.heard x.bD x.bq 0 0 0 0 0 0 0 0 0 0 0 0 0 0 0 0 0 0 0 0 0 0 0 0 0 x.dv x.id x.own x.off x.dg (fun _=>0) (fun _=>0) (fun _=>0) (fun _=>0) (fun _=>0) b0 b1 x.dead (Mm.bB x.dead 256) (dS i m x) (dS i m x) ?_;unfold Iy;intro b3 b4;refine⟨fun c=>⟨⟨_,_,_,_,rfl,?_,fun h=>absurd (hx.Ha.1 c) h⟩,xG b1 i m hx⟩,fun c=>?_⟩
 ·simp [hx.Ha.1 c]
 ·have h0:m.ph≠0:=fun e=>c (hx.Ha.2 e)
  have hc:=hx.call h0;exact⟨⟨_,_,_,_,rfl,by rw [hc.out];simp [h0],fun _=>⟨hc.c,hc.pa,hc.pd,hc.peer⟩⟩,xG b1 i m hx⟩
theorem dA:aq adY 52 [.pointer (some ⟨b1,0,none⟩)] [cq b1 i m] fun rv hs=>rv= .int .u8 (m.ph:Int)∧hs=[cq b1 i m]:=by
 refine k_ fun x hx=>aq.post (p:=fun rv hs=>rv= .int .u8 (m.ph:Int)∧aD hs [cq b1 i m]) ?_ fun rv hs ⟨h1,h2⟩=>⟨_,h2,h1,rfl⟩
 have b0:Nat:=0;refine M9 _ x.a x.d x.st x.out x.ac x.pa x.pd x.h_ x.early x.aK x.cf x.since x.heard x.bD x.bq 0 0 0 0 0 0 0 0 0 0 0 0 0 0 0 0 0 0 0 0 0 0 0 0 0 x.dv x.id x.own x.off x.dg (fun _=>0) (fun _=>0) (fun _=>0) (fun _=>0) (fun _=>0) b0 b1 x.dead (Mm.bB x.dead 256) (dS i m x) (dS i m x) ?_;unfold Eu;exact⟨by rw [hx.st],xG b1 i m hx⟩
theorem cj(h4:m.ph=4):aq adY 58 [.pointer (some ⟨b1,0,none⟩)] [cq b1 i m] fun rv hs=>(∃A:Nat→Int,rv= .agg (adH (al .u8 32 A) ([])).toArray∧aJ A 0 32=m.dg)∧hs=[cq b1 i m]:=by
 refine k_ fun x hx=>aq.post (p:=fun rv hs=>(∃A:Nat→Int,rv= .agg (adH (al .u8 32 A) ([])).toArray∧aJ A 0 32=m.dg)∧aD hs [cq b1 i m]) ?_ fun rv hs ⟨h1,h2⟩=>⟨_,h2,h1,rfl⟩
 have b0:Nat:=0;refine Kv _ x.a x.d x.st x.out x.ac x.pa x.pd x.h_ x.early x.aK x.cf x.since x.heard x.bD x.bq 0 0 0 0 0 0 0 0 0 0 0 0 0 0 0 0 0 0 0 0 0 0 0 0 0 x.dv x.id x.own x.off x.dg (fun _=>0) (fun _=>0) (fun _=>0) (fun _=>0) (fun _=>0) b0 b1 x.dead (Mm.bB x.dead 256) (dS i m x) (dS i m x) ?_;unfold Bc;intro b3;exact⟨fun _=>⟨⟨_,rfl,(hx.call (by omega)).dg⟩,xG b1 i m hx⟩,fun c=>absurd (.inl (hx.Ha.2 h4)) c⟩
def idle:Mc LI:=⟨0,0,false,0,zK,zK,zK,0,0,0,0⟩
abbrev dv2(j:Nat):Int:=if j<2 then 2 else 0
theorem NK(b9:Nat)(R:List HP):aD (ak b9 true [.slice none 0 0,.int .i64 256]::R) (Mm.bB b9 256::R):=
 aD.trans (aD.frame (aD.EX 72 16) _) (aD.trans (aD.frame (iX (a:=[aB true 72 16 (.slice none 0 0) 0 [],ak b9 true [.slice none 0 0,.int .i64 256]]) (b:=[ak b9 true [.slice none 0 0,.int .i64 256],aB true 72 16 (.slice none 0 0) 0 []]) [1,0] (by decide) rfl) R) (aD.frame (Mm.qV b9 256 ⟨cg,0,fun _=>0,by decide,by decide⟩ []) R))
theorem lz:aq adY 47 [.agg #[.int .u8 ((i/2:Nat):Int),.int .u8 ((i%2:Nat):Int)],.agg #[.int .u8 2,.int .u8 2,.int .u8 0,.int .u8 0,.int .u8 0,.int .u8 0,.int .u8 0,.int .u8 0]] [] fun rv hs=> ∃b:Nat,rv= .pointer (some ⟨b,0,none⟩)∧hs=[cq b i idle]:=by
 refine aq.post (p:=fun rv hs=> ∃b:Nat,rv= .pointer (some ⟨b,0,none⟩)∧aD hs [cq b i idle]) ?_ fun rv hs ⟨b,h1,h2⟩=>⟨_,h2,b,h1,rfl⟩
 refine S8 _ ((i/2:Nat):Int) ((i%2:Nat):Int) ?_;unfold y0;intro b0 b1 b2 b3;refine⟨b3,rfl,?_⟩;refine aD.trans (iX (b:=[ak b2 true [.slice none 0 0,.int .i64 256],cn b3 ⟨((i/2:Nat):Int),((i%2:Nat):Int),dv2,b2,0,fun _=>0,0,0,0,0,fun _=>0,fun _=>0,fun _=>0,0,0,0,0,0,0,0,0⟩]) [2,3] (by decide) rfl) ?_;refine aD.trans (NK b2 _) (aD.trans (iX [1,0] (by decide) rfl) (tR (x:=⟨((i/2:Nat):Int),((i%2:Nat):Int),dv2,b2,0,fun _=>0,0,0,0,0,fun _=>0,fun _=>0,fun _=>0,0,0,0,0,0,0,0,0⟩) ⟨rfl,rfl,rfl,rfl,rfl,fun h=>absurd rfl h⟩ (by decide)))
end Go.RX.Dh

namespace Go.RX.Dg
open Go.RX Go.Proofs Go.Cp Go.RX.Cs Go.RX.Ct Go.RX.Cu Go.RX.Cy Go.RX.Cz Go.RX.Dc Go.RX.Df
theorem mW(f:Nat→Int)(s n:Nat):aJ (aP f s) 0 n=aJ f s n:=by simp [aJ,aP]
theorem NL{f g:Nat→Int}{j k n:Nat}(h:j≠k):aJ (aW f (k*n) n g) (j*n) n=aJ f (j*n) n:=by
 refine List.map_congr_left fun t ht=>?_
 have:=adU.1 ht;simp only [aW];rw [if_neg];rcases Nat.lt_or_gt_of_ne h with h2 | h2
 ·have h3:(j+1)*n≤k*n:=Nat.mul_le_mul_right n h2;rw [Nat.succ_mul]at h3;omega
 ·have h3:(k+1)*n≤j*n:=Nat.mul_le_mul_right n h2;rw [Nat.succ_mul]at h3;omega
theorem NM{f g:Nat→Int}{s t n:Nat}:aJ f s n=aJ g t n↔∀j,j<n→f (s+j)=g (t+j):=by
 constructor
 ·intro h j hj;have:=congrArg (fun l=>l[j]?) h;simpa [aJ,hj] using this
 ·intro h;exact List.map_congr_left fun j hj=>h j (adU.1 hj)
theorem zl{α:Type}{l:List α}{g:Nat→α}(h:l=(aec l.length).map g){n:Nat}(hn:n<l.length):l.take (n+1)=l.take n++[g n]:=by
 have e:l[n]? =some (g n):=by rw [h];simp [hn]
 rw [List.take_add_one,e];rfl
abbrev qo(A:dx):List (Nat→List Value):=[au .u8 1 (A 0),au .u8 1 (A 1),au .u8 1 (A 2),au .u8 1 (A 3),au .u8 1 (A 4),au .u8 16 (A 5),au .u8 1 (A 6),au .u8 1 (A 7),au .u8 1 (A 8),au .u8 32 (A 9),au .u32 1 (A 10),dI 1 (fun _=> .slice none 0 0),au .u8 1 (A 11)]
def mX(A:dx)(j:Nat):Mg LI:=⟨(A 4 j).toNat,bM (aJ (A 5) (j*16) 16),(2*A 0 j+A 1 j).toNat,(2*A 2 j+A 3 j).toNat,aJ (A 9) (j*32) 32⟩
structure fw (A:dx) (l:List (Mg LI)):Prop where
 e:l=(aec l.length).map (mX A)
 f: ∀j,j<l.length→(0≤A 0 j∧A 0 j<2)∧(0≤A 1 j∧A 1 j<2)∧(0≤A 2 j∧A 2 j<2)∧(0≤A 3 j∧A 3 j<2)∧0≤A 4 j
theorem fw.congr{A B:dx}{l:List (Mg LI)}(h:fw A l)(h0:B 0=A 0)(h1:B 1=A 1)(h2:B 2=A 2)(h3:B 3=A 3)(h4:B 4=A 4)(h5:B 5=A 5)(h9:B 9=A 9):fw B l:=by
 refine⟨?_,?_⟩
 ·have:mX B=mX A:=by funext j;simp only [mX,h0,h1,h2,h3,h4,h5,h9]
  rw [this];exact h.e
 ·rw [h0,h1,h2,h3,h4];exact h.f
theorem fw.push{A:dx}{l:List (Mg LI)}(h:fw A l){i:Nat}(hi:i<4){N:Nat}(hN:N=l.length)(a2 a3 a4:Int)(id key:Nat→Int)(q2:0≤a2∧a2<2)(q3:0≤a3∧a3<2)(q4:0≤a4)
  {B:dx} (h0:B 0=aj (A 0) N ((i/2:Nat):Int)) (h1:B 1=aj (A 1) N ((i%2:Nat):Int)) (h2:B 2=aj (A 2) N a2) (h3:B 3=aj (A 3) N a3) (h4:B 4=aj (A 4) N a4) (h5:B 5=aW (A 5) (N*16) 16 id) (h9:B 9=aW (A 9) (N*32) 32 key) {y:Mg LI} (hy:y=⟨a4.toNat,bM (aJ id 0 16),i,(2*a2+a3).toNat,aJ key 0 32⟩):
  fw B (l++[y]):=by
 subst hN;have hl:(l++[y]).length=l.length+1:=by simp
 refine⟨?_,?_⟩
 ·have cK: ∀j,j<l.length→mX B j=mX A j:=fun j hj=>by simp only [mX,h0,h1,h2,h3,h4,h5,h9,oQ hj,qT hj]
  have heq:mX B l.length=y:=by
   rw [hy];simp only [mX,h0,h1,h2,h3,h4,h5,h9,oR,nX,Mg.mk.injEq,true_and,and_true];omega
  rw [hl,map_push cK heq,←h.e]
 ·intro j hj;rw [hl]at hj;by_cases Qt:j=l.length
  ·subst Qt;rw [h0,h1,h2,h3,h4];simp only [oR];omega
  ·have:=h.f j (by omega);rw [h0,h1,h2,h3,h4];simpa only [oQ (show j<l.length by omega)] using this
def cR(v:V1)(l:List (Mg LI)):HP:=HP.ex fun A:{A:dx // fw A l}=>aB true 216 59 v.v l.length (aH l.length (qo A.1))
def tX(v:V1)(B:Nat):HP:=HP.ex fun x:{x:Nat×dx // x.1≤B}=>aB true 76 56 v.v x.1.1 (aH x.1.1 (KD x.1.2))
def fM(v:V1)(B:Nat):HP:=HP.ex fun x:{x:Nat×dx // x.1≤B}=>aB true 85 22 v.v x.1.1 (aH x.1.1 (KE x.1.2))
abbrev qg:List IntKind:=[.u8,.u8,.u8,.u8,.u8,.u8,.u8,.u8,.u8,.u8,.u8,.u8,.u8,.u8,.u8,.u8]
structure qp (A B C:Nat→Int) (t:Nat→Option Nat):Prop where
 h: ∀c,A c≠0↔(t c).isSome=true
 b: ∀c,0≤B c∧B c<2
 c: ∀c,0≤C c∧C c<2
 v: ∀c,eh (B c) (C c)=(t c).getD 0
structure EY (A B:Nat→Int) (p:Nat→Option LI):Prop where
 h: ∀c,A c≠0↔(p c).isSome=true
 v: ∀c k,p c=some k→aJ B (c*32) 32=k
def oT(A:Nat→Int)(d:Nat→Bool):Prop:= ∀c,A c≠0↔d c=true
theorem qp.put{A B C:Nat→Int}{t:Nat→Option Nat}(h:qp A B C t)(c:Nat){p d:Int}(hp:0≤p∧p<2)(hd:0≤d∧d<2):qp (aj A c 1) (aj B c p) (aj C c d) (cV t c (some (eh p d))):=by
 refine⟨fun x=>?_,fun x=>?_,fun x=>?_,fun x=>?_⟩<;>by_cases e:x=c
 ·simp [aj,cV,e]
 ·simpa [aj,cV,e] using h.h x
 ·simpa [aj,e] using hp
 ·simpa [aj,e] using h.b x
 ·simpa [aj,e] using hd
 ·simpa [aj,e] using h.c x
 ·simp [aj,cV,e]
 ·simpa [aj,cV,e] using h.v x
theorem EY.put{A B:Nat→Int}{p:Nat→Option LI}(h:EY A B p)(c:Nat)(g:Nat→Int){k:LI}(hk:aJ g 0 32=k):EY (aj A c 1) (aW B (c*32) 32 g) (cV p c (some k)):=by
 refine⟨fun x=>?_,fun x y hy=>?_⟩<;>by_cases e:x=c
 ·simp [aj,cV,e]
 ·simpa [aj,cV,e] using h.h x
 ·subst e;rw [nX,hk];simpa [cV] using hy
 ·rw [NL e];exact h.v x y (by simpa [cV,e] using hy)
theorem oT.put{A:Nat→Int}{d:Nat→Nat→Bool}{i:Nat}(h:oT A (d i))(c:Nat):oT (aj A c 1) (kZ d i c true i):=by
 intro x;by_cases e:x=c
 ·simp [aj,kZ,e]
 ·simpa [aj,kZ,e] using h x
def sL(b:Nat)(t:Nat→Option Nat):HP:=HP.ex fun x:{x:(Nat→Int)×(Nat→Int)×(Nat→Int) // qp x.1 x.2.1 x.2.2 t}=>b_ b qg true true ([.int .u8 0,.int .u8 0]) (fun i=> !(x.1.1 i==0)) (cI [au .u8 1 x.1.2.1,au .u8 1 x.1.2.2])
def Hi(b:Nat)(p:Nat→Option LI):HP:=HP.ex fun x:{x:(Nat→Int)×(Nat→Int) // EY x.1 x.2 p}=>b_ b qg true true (adH (al .u8 32 (fun _=>0)) ([])) (fun i=> !(x.1.1 i==0)) (cI [au .u8 32 x.1.2])
def iI(b:Nat)(d:Nat→Bool):HP:=HP.ex fun x:{x:(Nat→Int)×(Nat→Int) // oT x.1 d}=>b_ b qg true false ([.int .u8 0]) (fun i=> !(x.1.1 i==0)) (cI [au .u8 1 x.1.2])
abbrev oU(b:Nat)(br:Nat→Nat):HP:=b_ b [.u8,.u8] true false ([.map none]) (fun i=>As [18,84,162,660] i) (uY [(18,[.map (some (br 0))]),(84,[.map (some (br 1))]),(162,[.map (some (br 2))]),(660,[.map (some (br 3))])] ([.map none]))
abbrev fN(b0:Nat)(now dl:Int)(bm:Nat→Nat)(vf ve:V1)(b5 b6 b7 b8:Nat)(bad:Bool):HP:=ak b0 true ([.int .u64 now,.pointer (some ⟨bm 0,0,none⟩),.pointer (some ⟨bm 1,0,none⟩),.pointer (some ⟨bm 2,0,none⟩),.pointer (some ⟨bm 3,0,none⟩),vf.v,.int .u16 dl,.map (some b5),.map (some b6),ve.v,.map (some b7),.map (some b8),.bool bad])
theorem zm{α:Type}{di:Nat}(hd:di<4)(f:Nat→α):s4 di (f 0) (f 1) (f 2) (f 3)=f di:=by
 match di,hd with
 | 0,_=>rfl
 | 1,_=>rfl
 | 2,_=>rfl
 | 3,_=>rfl
theorem NN{α:Type}{di:Nat}(hd:di<4)(f:Nat→α)(v:α):s4 di v (f 0) (f 0) (f 0)=cV f di v 0∧s4 di (f 1) v (f 1) (f 1)=cV f di v 1∧s4 di (f 2) (f 2) v (f 2)=cV f di v 2∧s4 di (f 3) (f 3) (f 3) v=cV f di v 3:=by
 match di,hd with
 | 0,_=>exact⟨rfl,rfl,rfl,rfl⟩
 | 1,_=>exact⟨rfl,rfl,rfl,rfl⟩
 | 2,_=>exact⟨rfl,rfl,rfl,rfl⟩
 | 3,_=>exact⟨rfl,rfl,rfl,rfl⟩
theorem Cf{di:Nat}(hd:di<4):s4 di (0:Int) 0 1 1=((di/2:Nat):Int)∧s4 di (0:Int) 1 0 1=((di%2:Nat):Int)∧s4 di (0:Int) 1 2 3=(di:Int):=by
 match di,hd with
 | 0,_=>exact⟨rfl,rfl,rfl⟩
 | 1,_=>exact⟨rfl,rfl,rfl⟩
 | 2,_=>exact⟨rfl,rfl,rfl⟩
 | 3,_=>exact⟨rfl,rfl,rfl⟩
end Go.RX.Dg

namespace Go.RX.Di
open Go.RX Go.Proofs Go.Cp Go.RX.Cs Go.RX.Ct Go.RX.Cu Go.RX.Cy Go.RX.Cz Go.RX.Dc Go.RX.Df Go.RX.Dg
set_option maxRecDepth 100000
theorem _root_.Go.RX.aD.both{a b c d:List HP}(h:aD a b)(k:aD c d):aD (a++c) (b++d):=aD.trans (aD.frame h c) (aD.trans (aD.perm List.perm_append_comm) (aD.trans (aD.frame k b) (aD.perm List.perm_append_comm)))
theorem _root_.Go.RX.aD.cons{a b:HP}{c d:List HP}(h:aD [a] [b])(k:aD c d):aD (a::c) (b::d):=aD.both h k
abbrev recMap(b:Nat)(Hs Ra:Nat→Int)(k:Nat)(v:V1):HP:=b_ b [.u8,.u8] true false ([.slice none 0 0]) (fun i=> !(Hs i==0)) (cI [dI 1 (fun j=>if j=k then v.v else kQ (Ra j))])
abbrev tY(m:Mc LI):Bool:=decide (m.ph≠0)&&m.out
abbrev wE(di:Nat)(m:Mc LI)(t:Nat→Option Nat)(p:Nat→Option LI)(l:List (Ev LI)):Wo LI:=l.foldl (ku di (tY m)) ⟨t,p,false⟩
abbrev wR(di now:Nat)(d:Nat→Nat→Bool)(b:Bool)(l:List (Nat×Nat)):(Nat→Nat→Bool)×Bool:=l.foldl (y_ di now) (d,b)
theorem QE{di:Nat}{m:Mc LI}{t:Nat→Option Nat}{p:Nat→Option LI}(l:List (Ev LI))(v:Ev LI):wE di m t p (l++[v])=ku di (tY m) (wE di m t p l) v:=by simp [wE]
theorem QF{di now:Nat}{d:Nat→Nat→Bool}{b:Bool}(l:List (Nat×Nat))(v:Nat×Nat):wR di now d b (l++[v])=y_ di now (wR di now d b l) v:=by simp [wR]
theorem Uk(n:Nat):ag ((n:Int)*16)=n*16:=by omega
theorem Ul(n:Nat):ag ((n:Int)*32)=n*32:=by omega
theorem r16(A:Nat→Int)(s:Nat):(aec 16).map (aP A s)=aJ A s 16:=rfl
theorem Y7{A B:Nat→Int}{s t:Nat}:(∀j,j<32→aP A s j=aP B t j)↔aJ A s 32=aJ B t 32:=NM.symm
theorem Hj{di:Nat}(hd:di<4)(b0 b5 b6 b7 b8:Nat)(bm br:Nat→Nat)(vr:V1)(Hs Ra:Nat→Int)(vf ve:V1)(now:Nat)(dl:Int)(bS:List (Mg LI))(A:dx)(hA:fw A bS)(ne:Nat)(C:dx)(T1 T2 T3:Nat→Int)(bI:Nat→Option Nat)(hT:qp T1 T2 T3 bI)
  (P1 P2:Nat→Int) (pr:Nat→Option LI) (hP:EY P1 P2 pr) (D1 D2:Nat→Int) (done:Nat→Nat→Bool) (hD:oT D1 (done di)) (nr:Nat) (R:dx) (m:Mc LI) (o:List (Mg LI)) (e:List (Ev LI)) (r:List (Nat×Nat)) (x:LJ di now o e r)
  (h1:bS.length+o.length≤1000000000) (h2:ne+e.length≤1000000000) (h3:nr+r.length≤1000000000):
  aq adY 101 [.pointer (some ⟨b0,0,none⟩),.int .i64 (s4 di 0 1 2 3),.agg #[x.v0.v,x.v1.v,x.v2.v]]
   ([fN b0 (now:Int) dl bm vf ve b5 b6 b7 b8 false,aB true 216 59 vf.v bS.length (aH bS.length (qo A)),aB true 76 56 ve.v ne (aH ne (KD C)),
    b_ b5 qg true true ([.int .u8 0,.int .u8 0]) (fun i=> !(T1 i==0)) (cI [au .u8 1 T2,au .u8 1 T3]),b_ b6 qg true true (adH (al .u8 32 (fun _=>0)) ([])) (fun i=> !(P1 i==0)) (cI [au .u8 32 P2]),oU b7 br,recMap b8 Hs Ra (s4 di 18 84 162 660) vr,
    b_ (br di) qg true false ([.int .u8 0]) (fun i=> !(D1 i==0)) (cI [au .u8 1 D2]),aB true 85 22 vr.v nr (aH nr (KE R)),cq (bm di) di m]++iu x)
   fun rv hs=>rv= .tuple #[]∧∃(fx fy v':V1) (Pb:Nat→Int),hs=[fN b0 (now:Int) dl bm fx fy b5 b6 b7 b8 (wR di now done (wE di m bI pr e).bad r).2,cR fx (bS++o),tX fy (ne+e.length),sL b5 (wE di m bI pr e).bI,Hi b6 (wE di m bI pr e).pr,
    oU b7 br,recMap b8 Pb Ra (s4 di 18 84 162 660) v',iI (br di) ((wR di now done (wE di m bI pr e).bad r).1 di),fM v' (nr+r.length),cq (bm di) di m]:=by
 refine aq.post (p:=fun rv hs=>rv= .tuple #[]∧∃(fx fy v':V1) (Pb:Nat→Int),aD hs [fN b0 (now:Int) dl bm fx fy b5 b6 b7 b8 (wR di now done (wE di m bI pr e).bad r).2,cR fx (bS++o),tX fy (ne+e.length),sL b5 (wE di m bI pr e).bI,Hi b6 (wE di m bI pr e).pr,
    oU b7 br,recMap b8 Pb Ra (s4 di 18 84 162 660) v',iI (br di) ((wR di now done (wE di m bI pr e).bad r).1 di),fM v' (nr+r.length),cq (bm di) di m]) ?_ fun rv hs ⟨k1,fx,fy,v',Pb,k2⟩=>⟨_,k2,k1,fx,fy,v',Pb,rfl⟩
 have hm:=fun ao=>M8 di hd ao (now:Int) dl 0 (bS.length:Int) (ne:Int) (nr:Int) (o.length:Int) (e.length:Int) (r.length:Int) (A 0) (A 1) (A 2) (A 3) (A 4) (A 5) (A 6) (A 7) (A 8) (A 9) (A 10) (A 11) (C 0) (C 1) (C 2) (C 3) (C 4) (C 5) (C 6) (C 7) (C 8) (C 9) (x.Ao 0) (x.Ao 1) (x.Ao 2) (x.Ao 3) (x.Ao 4) (x.Ao 5) (x.Ao 6) (x.Ao 7) (x.Ao 8) (x.Ao 9) (x.Ae 0) (x.Ae 1) (x.Ae 2) (x.Ae 3) (x.Ae 4) (x.Ae 5) (x.Ae 6) (x.Ae 7) (x.Ae 8) (x.Ae 9) (x.Ar 0) (x.Ar 1) (x.Ar 2) (x.Ar 3) (x.Ar 4) (x.Ar 5) (x.Ar 6) T1 T2 T3 P1 P2 D1 D2 (R 0) (R 1) (R 2) (R 3) (R 4) (R 5) (R 6) Hs Ra vf ve vr vr vr vr x.v0 x.v1 x.v2 b0 (bm 0) (bm 1) (bm 2) (bm 3) b5 b6 b7 b8 (br 0) (br 1) (br 2) (br 3) (cq (bm di) di m)
 simp only [zm hd br,Int.toNat_natCast]at hm;refine hm _ ?_;clear hm;unfold nV;obtain⟨Y8,Y9, -⟩:=Cf hd;simp only [zm hd bm,zm hd br,Y8,Y9,r16];intro C2;refine⟨by omega,fun _=>⟨fun k=>0≤k.i.getD 0 0∧k.i.getD 0 0≤o.length∧k.i.getD 1 0=bS.length+k.i.getD 0 0∧fw (fun c=>k.a.getD c (fun _=>0)) (bS++o.take (k.i.getD 0 0).toNat),fun k=>(o.length - k.i.getD 0 0).toNat,⟨_,_,_,A 0,A 1,A 2,A 3,A 4,A 5,A 6,A 7,A 8,A 9,A 10,A 11,rfl,rfl,rfl,rfl,fun _ _=>rfl,fun _ _=>rfl,fun _ _=>rfl,fun _ _=>rfl,fun _ _=>rfl,fun _ _=>rfl,fun _ _=>rfl,fun _ _=>rfl,fun _ _=>rfl,fun _ _=>rfl,fun _ _=>rfl,fun _ _=>trivial,fun _ _=>rfl,?_⟩,?_⟩⟩
 ·refine⟨Int.le_refl _,by simp,by simp,?_⟩;simp only [ah,Int.toNat_zero,List.take_zero,adW];exact hA.congr rfl rfl rfl rfl rfl rfl rfl
 rintro v9 x9 aG P5 P6 P7 P8 P9 P_ Qa Qb Qc Qd Qe Qf ⟨k1,k2,k3,k4⟩;simp only [ah,aeg]at k1 k2 k3 k4;obtain⟨n,rfl⟩:=Int.eq_ofNat_of_zero_le k1;have k5:aG=((bS.length+n:Nat):Int):=by omega
 subst k5;simp only [Uk,Ul,Int.toNat_natCast]at k4 ⊢;refine⟨fun cK=>⟨k1,fun _=>?_⟩,fun wG=>?_⟩
 ·intro uw En Aq ID;refine⟨by omega,fun _=>⟨by omega,fun _=>fun v10=>⟨by omega,fun _=>⟨by omega,fun _=>⟨_,_,_,_,_,_,_,_,_,_,_,_,_,_,_,rfl,rfl,rfl,rfl,fun _ _=>rfl,fun _ _=>rfl,fun _ _=>rfl,fun _ _=>rfl,fun _ _=>rfl,fun _ _=>rfl,fun _ _=>rfl,fun _ _=>rfl,fun _ _=>rfl,fun _ _=>rfl,fun _ _=>rfl,fun _ _=>trivial,fun _ _=>rfl,⟨?_,?_,?_,?_⟩,?_⟩⟩⟩⟩⟩
  ·simp only [ah];omega
  ·simp only [ah];omega
  ·simp only [ah,aeg];omega
  ·have hn:n<o.length:=by omega
   simp only [ah,show((n:Int)+1).toNat=n+1 by omega];rw [zl x.ho hn,←List.append_assoc];have q:=x.hd n hn;refine fw.push (A:=fun c=>[P5,P6,P7,P8,P9,P_,Qa,Qb,Qc,Qd,Qe,Qf].getD c (fun _=>0)) (N:=bS.length+n) k4 hd (by simp;omega) (x.Ao 0 n) (x.Ao 1 n) (x.Ao 2 n) (aP (x.Ao 3) (n*16)) (aP (x.Ao 7) (n*32)) (by omega) (by omega) (by omega) rfl rfl rfl rfl rfl rfl rfl ?_;simp only [EF,mW]
  ·simp only [ah];omega
 have k6:n=o.length:=by omega
 subst k6;rw [List.take_length]at k4
 iterate 4 refine⟨by omega,fun _=>?_⟩
 refine fun v10=>⟨fun k=>0≤k.i.getD 0 0∧k.i.getD 0 0≤e.length∧qp (k.a.getD 0 (fun _=>0)) (k.a.getD 1 (fun _=>0)) (k.a.getD 2 (fun _=>0)) (wE di m bI pr (e.take (k.i.getD 0 0).toNat)).bI∧EY (k.a.getD 3 (fun _=>0)) (k.a.getD 4 (fun _=>0)) (wE di m bI pr (e.take (k.i.getD 0 0).toNat)).pr∧k.bo.getD 0 false=(wE di m bI pr (e.take (k.i.getD 0 0).toNat)).bad,fun k=>(e.length - k.i.getD 0 0).toNat,⟨_,_,_,_,_,_,_,rfl,rfl,rfl,rfl,rfl,rfl,rfl,?_⟩,?_⟩
 ·exact⟨Int.le_refl _,by simp,hT,hP,rfl⟩
 rintro aO Ep Er Es Et FO q0 ⟨j1,j2,j3,j4,j5⟩;simp only [ah,aeg]at j1 j2 j3 j4 j5;obtain⟨n,rfl⟩:=Int.eq_ofNat_of_zero_le j1;simp only [Uk,Ul,Int.toNat_natCast]at j3 j4 j5 ⊢;subst j5;refine⟨fun cK=>⟨j1,fun _=>?_⟩,fun wG=>?_⟩
 ·intro uw;have hn:n<e.length:=by omega
  have hq:=x.hp n hn;have hw:=QE (di:=di) (m:=m) (t:=bI) (p:=pr) (e.take n) (sF x.Ae n);rw [←zl x.he hn]at hw;have e3:(sF x.Ae n).k=(x.Ae 0 n).toNat:=rfl;have ec:bM (aJ (x.Ae 4) (n*16) 16)=(sF x.Ae n).c:=rfl;have ep:eh (x.Ae 6 n) (x.Ae 7 n)=(sF x.Ae n).peer:=rfl;have ek:aJ (aP (x.Ae 8) (n*32)) 0 32=(sF x.Ae n).key:=mW _ _ _;have ek2:aJ (x.Ae 8) (n*32) 32=(sF x.Ae n).key:=rfl;refine⟨_,Dh.dF (bm di) di m,?_⟩;rintro v hs ⟨⟨Ac,p,d,q1,rfl,Tr, -⟩,rfl⟩;refine⟨p,d,Ac,q1,rfl,rfl,?_⟩;intro En Aq;simp only [ec,Y7,ek2];have Bm:((n:Int)+1).toNat=n+1:=by omega
  generalize wE di m bI pr (e.take n)=w at j3 j4 hw ⊢;generalize hv:sF x.Ae n=ev at hw e3 ec ep ek ek2 ⊢;refine⟨fun c3=>fun ID=>⟨by omega,fun _=>⟨by omega,fun _=>⟨_,_,_,_,_,_,_,rfl,rfl,rfl,rfl,rfl,rfl,rfl,⟨by simp only [ah];omega,by simp only [ah];omega,?_⟩,by simp only [ah];omega⟩⟩⟩,fun c3=>⟨fun c4=>fun ID=>⟨fun c5=>fun Iw Kd=>⟨by omega,fun _=>⟨by omega,fun _=>⟨_,_,_,_,_,_,_,rfl,rfl,rfl,rfl,rfl,rfl,rfl,⟨by simp only [ah];omega,by simp only [ah];omega,?_⟩,by simp only [ah];omega⟩⟩⟩,fun c5=>⟨by omega,fun _=>⟨by omega,fun _=>⟨_,_,_,_,_,_,_,rfl,rfl,rfl,rfl,rfl,rfl,rfl,⟨by simp only [ah];omega,by simp only [ah];omega,?_⟩,by simp only [ah];omega⟩⟩⟩⟩,fun c4=>⟨by omega,fun _=>⟨by omega,fun _=>⟨_,_,_,_,_,_,_,rfl,rfl,rfl,rfl,rfl,rfl,rfl,⟨by simp only [ah];omega,by simp only [ah];omega,?_⟩,by simp only [ah];omega⟩⟩⟩⟩⟩
  ·have f1:ev.k=3:=by omega
   have f2:tY m=true:=Tr.symm.trans c3.2;simp only [ah,aeg,Bm];rw [hw,ku,if_pos ⟨f1,f2⟩];refine⟨ep▸j3.put ev.c (by omega) (by omega),j4,?_⟩;have:=j3.h ev.c;by_cases f3:Ep ev.c=0
   ·have f4: ¬(w.bI ev.c).isSome=true:=fun h=>(this.2 h) f3
    simp [f3,f4]
   ·simp [f3,this.1 f3]
  ·have f1:ev.k=4:=by omega
   simp only [ah,aeg,Bm];rw [hw,ku,if_neg (by omega),if_pos f1];refine⟨j3,j4.put ev.c _ ek,?_⟩;obtain⟨g1,g2⟩:=not_or.1 c5;have g3:w.bad=false:=by simpa using g1
   have g4:(w.pr ev.c).any (· ≠ev.key)=false:=by
    cases hp:w.pr ev.c with
    | none=>rfl
    | some k=>
     have g5:Et ev.c≠0:=(j4.h ev.c).2 (by rw [hp];rfl);have g6:=ad5.1 (fun h=>g2 ⟨g5,h⟩);rw [j4.v ev.c k hp]at g6;simp [g6]
   rw [g3,g4,Tr];have g7:=j3.v ev.c;have g8:=j3.b ev.c;have g9:=j3.c ev.c;have g10:(Er ev.c==((di/2:Nat):Int)&&Es ev.c==((di%2:Nat):Int))=decide ((w.bI ev.c).getD 0=di):=by
    rw [←g7,Bool.eq_iff_iff];simp only [ai,beq_iff_eq,decide_eq_true_eq,eh];omega
   rw [g10];simp
  ·have f1:ev.k=4:=by omega
   simp only [ah,aeg,Bm];rw [hw,ku,if_neg (by omega),if_pos f1];refine⟨j3,j4.put ev.c _ ek,?_⟩;rcases Classical.not_not.1 c5 with g1 | ⟨g1,g2⟩
   ·simp [g1]
   ·have g3:=(j4.h ev.c).1 g1;obtain⟨k,hk⟩:=aew.1 g3;rw [j4.v ev.c k hk]at g2;simp [hk,g2]
  ·simp only [ah,aeg,Bm];have f1: ¬(ev.k=3∧tY m=true):=fun h=>c3 ⟨by omega,by rw [Tr];exact h.2⟩
   rw [hw,ku,if_neg f1,if_neg (by omega)];exact⟨j3,j4,rfl⟩
 have j6:n=e.length:=by omega
 subst j6;rw [List.take_length]at j3 j4 ⊢;refine⟨by omega,fun _=>⟨fun k=>0≤k.i.getD 0 0∧k.i.getD 0 0≤r.length∧k.i.getD 1 0=nr+k.i.getD 0 0∧oT (k.a.getD 0 (fun _=>0)) ((wR di now done (wE di m bI pr e).bad (r.take (k.i.getD 0 0).toNat)).1 di)∧k.bo.getD 0 false=(wR di now done (wE di m bI pr e).bad (r.take (k.i.getD 0 0).toNat)).2,fun k=>(r.length - k.i.getD 0 0).toNat,⟨_,_,_,_,_,_,_,_,_,_,_,_,_,_,rfl,rfl,rfl,rfl,rfl,rfl,rfl,rfl,fun _ _=>rfl,fun _ _=>rfl,fun _ _=>rfl,fun _ _=>rfl,fun _ _=>rfl,fun _ _=>rfl,fun _ _=>rfl,?_⟩,?_⟩⟩
 ·exact⟨Int.le_refl _,by simp,by simp,hD,rfl⟩
 rintro v11 aI aT Au Ki Kj Kk Kl Km Kn Ko Kp Kq q1 ⟨i1,i2,i3,i4,i5⟩;simp only [ah,aeg]at i1 i2 i3 i4 i5;obtain⟨n,rfl⟩:=Int.eq_ofNat_of_zero_le i1;have i6:aT=((nr+n:Nat):Int):=by omega
 subst i6;simp only [Uk,Int.toNat_natCast]at i4 i5 ⊢;subst i5;refine⟨fun cK=>⟨i1,fun _=>?_⟩,fun wG=>?_⟩
 ·have hn:n<r.length:=by omega
  have hq:=x.hn n hn;have hw:=QF (di:=di) (now:=now) (d:=done) (b:=(wE di m bI pr e).bad) (r.take n) (rp x.Ar n);rw [←zl x.hr hn]at hw;have ec:bM (aJ (x.Ar 0) (n*16) 16)=(rp x.Ar n).1:=rfl;have eb:(rp x.Ar n).2=(x.Ar 4 n).toNat:=rfl;have Bm:((n:Int)+1).toNat=n+1:=by omega
  have fin: ∀b:Bool,b=((((wR di now done (wE di m bI pr e).bad (r.take n)).2||(!(Au (rp x.Ar n).1==0)))||(!(x.Ar 6 n==(now:Int))))||(decide (x.Ar 6 n<x.Ar 4 n)))→oT (aj Au (rp x.Ar n).1 1) ((wR di now done (wE di m bI pr e).bad (r.take (n+1))).1 di)∧b=(wR di now done (wE di m bI pr e).bad (r.take (n+1))).2:=by
   intro b hb;rw [hw,y_];generalize wR di now done (wE di m bI pr e).bad (r.take n)=w at i4 hb ⊢;refine⟨i4.put _,?_⟩;rw [hb,hq.1];have g1:=i4 (rp x.Ar n).1;have g2:(!(Au (rp x.Ar n).1==0))=w.1 di (rp x.Ar n).1:=by
    rw [Bool.eq_iff_iff,←g1];simp
   have g3:decide ((now:Int)<x.Ar 4 n)=decide (now<(rp x.Ar n).2):=by
    rw [eb,Bool.eq_iff_iff,decide_eq_true_eq,decide_eq_true_eq];omega
   rw [g2,g3];simp
  intro uw En Aq ID Iw;refine⟨fun Kd Eo=>⟨fun Pc Ix Pd=>?_,fun Pc Ix Pd=>?_⟩,fun Kd Eo Pc Ix Pd=>?_⟩
  all_goals
   simp only [ec];refine⟨by omega,fun _=>⟨by omega,fun _=>fun Lt=>⟨by omega,fun _=>⟨by omega,fun _=>⟨_,_,_,_,_,_,_,_,_,_,_,_,_,_,rfl,rfl,rfl,rfl,rfl,rfl,rfl,rfl,fun _ _=>rfl,fun _ _=>rfl,fun _ _=>rfl,fun _ _=>rfl,fun _ _=>rfl,fun _ _=>rfl,fun _ _=>rfl,⟨?_,?_,?_,?_⟩,?_⟩⟩⟩⟩⟩
   ·simp only [ah];omega
   ·simp only [ah];omega
   ·simp only [ah,aeg];omega
   ·simp only [ah,Bm];exact fin _ rfl
   ·simp only [ah];omega
 have i7:n=r.length:=by omega
 subst i7;rw [List.take_length]at i4 ⊢;refine⟨trivial,v9,v10,v11,Kq,?_⟩;have efl:(bS++o).length=bS.length+o.length:=by simp
 rw [show((ne:Int)+(e.length:Int)).toNat=ne+e.length by omega];refine aD.cons (aD.refl _) (aD.cons ?_ (aD.cons ?_ (aD.cons ?_ (aD.cons ?_ (aD.cons (aD.refl _) (aD.cons (aD.refl _) (aD.cons ?_ (aD.cons ?_ (aD.sub (by simp))))))))))
 ·rw [←efl];exact aD.ex (F:=fun A:{A:dx // fw A (bS++o)}=>aB true 216 59 v9.v (bS++o).length (aH (bS++o).length (qo A.1))) ⟨_,k4⟩ rfl
 ·exact aD.ex (F:=fun x:{x:Nat×dx // x.1≤ne+e.length}=>aB true 76 56 v10.v x.1.1 (aH x.1.1 (KD x.1.2))) ⟨(ne+e.length,fun c=>[aW (C 0) ne e.length (x.Ae 0),aW (C 1) ne e.length (x.Ae 1),aW (C 2) ne e.length (x.Ae 2),aW (C 3) ne e.length (x.Ae 3),aW (C 4) (ne*16) (e.length*16) (x.Ae 4),aW (C 5) ne e.length (x.Ae 5),aW (C 6) ne e.length (x.Ae 6),aW (C 7) ne e.length (x.Ae 7),aW (C 8) (ne*32) (e.length*32) (x.Ae 8),aW (C 9) ne e.length (x.Ae 9)].getD c (fun _=>0)),Nat.le_refl _⟩ rfl
 ·exact aD.ex (F:=fun x:{x:(Nat→Int)×(Nat→Int)×(Nat→Int) // qp x.1 x.2.1 x.2.2 (wE di m bI pr e).bI}=>b_ b5 qg true true ([.int .u8 0,.int .u8 0]) (fun i=> !(x.1.1 i==0)) (cI [au .u8 1 x.1.2.1,au .u8 1 x.1.2.2])) ⟨(Ep,Er,Es),j3⟩ rfl
 ·exact aD.ex (F:=fun x:{x:(Nat→Int)×(Nat→Int) // EY x.1 x.2 (wE di m bI pr e).pr}=>b_ b6 qg true true (adH (al .u8 32 (fun _=>0)) ([])) (fun i=> !(x.1.1 i==0)) (cI [au .u8 32 x.1.2])) ⟨(Et,FO),j4⟩ rfl
 ·exact aD.ex (F:=fun x:{x:(Nat→Int)×(Nat→Int) // oT x.1 ((wR di now done (wE di m bI pr e).bad r).1 di)}=>b_ (br di) qg true false ([.int .u8 0]) (fun i=> !(x.1.1 i==0)) (cI [au .u8 1 x.1.2])) ⟨(Au,Ki),i4⟩ rfl
 ·exact aD.ex (F:=fun x:{x:Nat×dx // x.1≤nr+r.length}=>aB true 85 22 v11.v x.1.1 (aH x.1.1 (KE x.1.2))) ⟨(nr+r.length,fun c=>[Kj,Kk,Kl,Km,Kn,Ko,Kp].getD c (fun _=>0)),Nat.le_refl _⟩ rfl
end Go.RX.Di

namespace Go.RX
theorem aq.AE{α:Type}{F:α→HP}{P:Program}{f:Nat}{args:List Value}(l r:List HP){post:Value→List HP→Prop}(h: ∀a,aq P f args (l++F a::r) post):aq P f args (l++HP.ex F::r) post:=
 aq.pre (aq.ex (R:=l++r) fun a=>aq.pre (h a) (aD.perm List.perm_middle.symm)) (aD.perm List.perm_middle)
theorem KV{t s n:Nat}{v:Value}{cs:List Value}{Fs:List HP}{w:World}(h:bd (aB true t s v n cs::Fs) w): ∃e:Int,v=kQ e:=by
 obtain⟨S,hS⟩:=h;obtain⟨⟨ho,_⟩,_⟩:=hS.at_ 0 _ rfl;simp only [if_true]at ho;rcases ho.2 with⟨rfl,_⟩ | ⟨g,o,cap,cur,rfl,_⟩
 ·exact⟨0,rfl⟩
 ·exact⟨Sd g o n cap,(Jr g o n cap).symm⟩
end Go.RX
namespace Go.RX.Dj
open Go.RX Go.Proofs Go.Cp Go.RX.Cs Go.RX.Ct Go.RX.Cu Go.RX.Cy Go.RX.Cz Go.RX.Dc Go.RX.Df Go.RX.Dg Go.RX.Di
set_option maxRecDepth 100000
def Bn(e:Int):V1:=⟨kQ e,s7 e⟩
def qq(ra:Nat→Int)(j:Nat):Int:=if j=18 then ra 0 else if j=84 then ra 1 else if j=162 then ra 2 else if j=660 then ra 3 else 0
def zn(b:Nat)(ra:Nat→Int):HP:=HP.ex fun Hs:Nat→Int=>b_ b [.u8,.u8] true false ([.slice none 0 0]) (fun i=> !(Hs i==0)) (cI [dI 1 (fun j=>kQ (qq ra j))])
theorem Cg{di:Nat}(hd:di<4)(ra:Nat→Int)(e:Int):(fun j=>kQ (qq (cV ra di e) j))=fun j=>if j=s4 di 18 84 162 660 then(Bn e).v else kQ (qq ra j):=by
 funext j
 match di,hd with
 | 0,_=>by_cases h:j=18<;>simp [qq,cV,Bn,s4,h]
 | 1,_=>by_cases h:j=84<;>simp [qq,cV,Bn,s4,h]
 | 2,_=>by_cases h:j=162<;>simp [qq,cV,Bn,s4,h]
 | 3,_=>by_cases h:j=660<;>simp [qq,cV,Bn,s4,h]
abbrev sM(br:Nat→Nat)(ra:Nat→Int)(done:Nat→Nat→Bool)(B:Nat):List HP:=[iI (br 0) (done 0),fM (Bn (ra 0)) B,iI (br 1) (done 1),fM (Bn (ra 1)) B,iI (br 2) (done 2),fM (Bn (ra 2)) B,iI (br 3) (done 3),fM (Bn (ra 3)) B]
def gq(di:Nat)(br:Nat→Nat)(ra:Nat→Int)(done:Nat→Nat→Bool)(B:Nat):List HP:=
 let p:Nat→List HP:=fun k=>[iI (br k) (done k),fM (Bn (ra k)) B]
 s4 di (p 1++(p 2++p 3)) (p 0++(p 2++p 3)) (p 0++(p 1++p 3)) (p 0++(p 1++p 2))
theorem IU{v:V1}{B B':Nat}(h:B≤B'):aD [fM v B] [fM v B']:=
 aD.zj fun x=>aD.ex (F:=fun x:{x:Nat×dx // x.1≤B'}=>aB true 85 22 v.v x.1.1 (aH x.1.1 (KE x.1.2))) ⟨x.1,Nat.le_trans x.2 h⟩ rfl
theorem NO{v:V1}{B B':Nat}(h:B≤B'):aD [tX v B] [tX v B']:=
 aD.zj fun x=>aD.ex (F:=fun x:{x:Nat×dx // x.1≤B'}=>aB true 76 56 v.v x.1.1 (aH x.1.1 (KD x.1.2))) ⟨x.1,Nat.le_trans x.2 h⟩ rfl
theorem fi{b:Nat}{d:Nat→Bool}{v:V1}{B B':Nat}(h:B≤B'){L L':List HP}(k:aD L L'):aD (iI b d::fM v B::L) (iI b d::fM v B'::L'):=aD.cons (aD.refl _) (aD.cons (IU h) k)
variable {di:Nat} {br:Nat→Nat} {ra:Nat→Int} {done:Nat→Nat→Bool} {B:Nat}
theorem KW(hd:di<4){B':Nat}(h:B≤B'):aD (gq di br ra done B) (gq di br ra done B'):=by
 match di,hd with
 | 0,_=>exact fi h (fi h (fi h (aD.refl _)))
 | 1,_=>exact fi h (fi h (fi h (aD.refl _)))
 | 2,_=>exact fi h (fi h (fi h (aD.refl _)))
 | 3,_=>exact fi h (fi h (fi h (aD.refl _)))
theorem pull(hd:di<4):aD (sM br ra done B) ([iI (br di) (done di),fM (Bn (ra di)) B]++gq di br ra done B):=by
 match di,hd with
 | 0,_=>exact iX [0,1,2,3,4,5,6,7] (by decide) rfl
 | 1,_=>exact iX [2,3,0,1,4,5,6,7] (by decide) rfl
 | 2,_=>exact iX [4,5,0,1,2,3,6,7] (by decide) rfl
 | 3,_=>exact iX [6,7,0,1,2,3,4,5] (by decide) rfl
theorem push(hd:di<4){d1:Nat→Nat→Bool}(h1: ∀k,k≠di→d1 k=done k)(e:Int):aD ([iI (br di) (d1 di),fM (Bn e) B]++gq di br ra done B) (sM br (cV ra di e) d1 B):=by
 match di,hd with
 | 0,_=>exact iX [0,1,2,3,4,5,6,7] (by decide) (by rw [sM,h1 1 (by decide),h1 2 (by decide),h1 3 (by decide)];rfl)
 | 1,_=>exact iX [2,3,0,1,4,5,6,7] (by decide) (by rw [sM,h1 0 (by decide),h1 2 (by decide),h1 3 (by decide)];rfl)
 | 2,_=>exact iX [2,3,4,5,0,1,6,7] (by decide) (by rw [sM,h1 0 (by decide),h1 1 (by decide),h1 3 (by decide)];rfl)
 | 3,_=>exact iX [2,3,4,5,6,7,0,1] (by decide) (by rw [sM,h1 0 (by decide),h1 1 (by decide),h1 2 (by decide)];rfl)
theorem NP{now:Nat}{b:Bool}(l:List (Nat×Nat)){k:Nat}(hk:k≠di):(wR di now done b l).1 k=done k:=by
 unfold wR
 induction l generalizing done b with
 | nil=>rfl
 | cons v l ih=>
  rw [List.foldl_cons,y_,ih];funext c;simp [kZ,hk]
abbrev rO(ve:V1)(b5 b6 b7 b8:Nat)(bI:Nat→Option Nat)(pr:Nat→Option LI)(done:Nat→Nat→Bool)(B:Nat)(br:Nat→Nat)(ra:Nat→Int):List HP:=[tX ve B,sL b5 bI,Hi b6 pr,oU b7 br,zn b8 ra]++sM br ra done B
def nA(ve:V1)(b5 b6 b7 b8:Nat)(bI:Nat→Option Nat)(pr:Nat→Option LI)(done:Nat→Nat→Bool)(B:Nat):HP:=HP.ex fun x:(Nat→Nat)×(Nat→Int)=>HP.star (rO ve b5 b6 b7 b8 bI pr done B x.1 x.2)
theorem NQ{ve:V1}{b5 b6 b7 b8:Nat}{bI:Nat→Option Nat}{pr:Nat→Option LI}: ∀h∈rO ve b5 b6 b7 b8 bI pr done B br ra,h.wr=true:=by
 intro h hh;simp only [rO,List.cons_append,List.nil_append,List.mem_cons,List.not_mem_nil,or_false]at hh;rcases hh with rfl | rfl | rfl | rfl | rfl | rfl | rfl | rfl | rfl | rfl | rfl | rfl | rfl<;>rfl
theorem u7{ve:V1}{b5 b6 b7 b8:Nat}{bI:Nat→Option Nat}{pr:Nat→Option LI}:aD (rO ve b5 b6 b7 b8 bI pr done B br ra) [nA ve b5 b6 b7 b8 bI pr done B]:=
 aD.trans (aD.star NQ) (aD.ex (F:=fun x:(Nat→Nat)×(Nat→Int)=>HP.star (rO ve b5 b6 b7 b8 bI pr done B x.1 x.2)) (br,ra) rfl)
theorem KX{v:V1}{R L:List HP}(h: ∀e,v=Bn e→aD (fM v B::R) L):aD (fM v B::R) L:=fun w Fs own=>by
 obtain⟨x,hx⟩:=bd.zj (R:=R++Fs) own;obtain⟨e,he⟩:=KV hx;obtain⟨v,hv⟩:=v;simp only at he;subst he;exact h e rfl w Fs own
theorem EZ(hd:di<4)(b0 b5 b6 b7 b8:Nat)(bm:Nat→Nat)(vf ve v0 v1 v2:V1)(now:Nat)(dl:Int)(bS:List (Mg LI))(bI:Nat→Option Nat)(pr:Nat→Option LI)(m:Mc LI)(o:List (Mg LI))(e:List (Ev LI))(r:List (Nat×Nat))
  (h1:bS.length+o.length≤1000000000) (hB:B≤900000000) (h2:e.length≤4) (h3:r.length≤4):
  aq adY 101 [.pointer (some ⟨b0,0,none⟩),.int .i64 (di:Int),.agg #[v0.v,v1.v,v2.v]]
   [fN b0 (now:Int) dl bm vf ve b5 b6 b7 b8 false,cR vf bS,nA ve b5 b6 b7 b8 bI pr done B,cq (bm di) di m,eB v0 v1 v2 di now o e r]
   fun rv hs=>rv= .tuple #[]∧∃fx fy:V1,hs=[fN b0 (now:Int) dl bm fx fy b5 b6 b7 b8 (wR di now done (wE di m bI pr e).bad r).2,cR fx (bS++o),nA fy b5 b6 b7 b8 (wE di m bI pr e).bI (wE di m bI pr e).pr (wR di now done (wE di m bI pr e).bad r).1 (B+4),cq (bm di) di m]:=by
 refine aq.AE [_] [_,_,_] fun A=>?_
 refine aq.AE [_,_] [_,_] fun x=>?_
 obtain⟨br,ra⟩:=x;refine aq.AE [_,_,_,_] [] fun x=>?_
 obtain⟨x,rfl,rfl,rfl⟩:=x;refine aq.pre (Gm:=[fN b0 (now:Int) dl bm vf ve b5 b6 b7 b8 false,aB true 216 59 vf.v bS.length (aH bS.length (qo A.1)),tX ve B,sL b5 bI,Hi b6 pr,oU b7 br,zn b8 ra,iI (br di) (done di),fM (Bn (ra di)) B,cq (bm di) di m]++(iu x++gq di br ra done B)) ?_ ?_
 ·refine aq.AE [_,_] (_::_::_::_::_::_::_::(iu x++gq di br ra done B)) fun C=>?_
  refine aq.AE [_,_,_] (_::_::_::_::_::_::(iu x++gq di br ra done B)) fun T=>?_
  refine aq.AE [_,_,_,_] (_::_::_::_::_::(iu x++gq di br ra done B)) fun P=>?_
  refine aq.AE [_,_,_,_,_,_] (_::_::_::(iu x++gq di br ra done B)) fun Hs=>?_
  have e0:=Cg hd ra (ra di);rw [show cV ra di (ra di)=ra by funext j;unfold cV;split<;>simp_all]at e0;rw [e0];refine aq.AE [_,_,_,_,_,_,_] (_::_::(iu x++gq di br ra done B)) fun D=>?_
  refine aq.AE [_,_,_,_,_,_,_,_] (_::(iu x++gq di br ra done B)) fun R=>?_
  have hm:=(Hj hd b0 b5 b6 b7 b8 bm br (Bn (ra di)) Hs (qq ra) vf ve now dl bS A.1 A.2 C.1.1 C.1.2 T.1.1 T.1.2.1 T.1.2.2 bI T.2 P.1.1 P.1.2 pr P.2 D.1.1 D.1.2 done D.2 R.1.1 R.1.2 m o e r x h1 (by have:=C.2;omega) (by have:=R.2;omega)).frame (gq di br ra done B);rw [(Cf hd).2.2]at hm;refine aq.post hm ?_;rintro rv hs ⟨gN,rfl,k1,fx,fy,v',Pb,rfl⟩;refine⟨_,?_,k1,fx,fy,rfl⟩;refine aD.trans (iX (b:=fM v' (R.1.1+r.length)::([fN b0 (now:Int) dl bm fx fy b5 b6 b7 b8 (wR di now done (wE di m bI pr e).bad r).2,cR fx (bS++o),cq (bm di) di m,tX fy (C.1.1+e.length),sL b5 (wE di m bI pr e).bI,Hi b6 (wE di m bI pr e).pr,oU b7 br,recMap b8 Pb (qq ra) (s4 di 18 84 162 660) v']++(iI (br di) ((wR di now done (wE di m bI pr e).bad r).1 di)::gq di br ra done B))) [8,0,1,9,2,3,4,5,6,7,10,11,12,13,14,15] (by decide) ?_) ?_
  ·match di,hd with
   | 0,_=>rfl
   | 1,_=>rfl
   | 2,_=>rfl
   | 3,_=>rfl
  refine KX fun ec hec=>?_
  subst hec;refine aD.trans (b:=[fN b0 (now:Int) dl bm fx fy b5 b6 b7 b8 (wR di now done (wE di m bI pr e).bad r).2,cR fx (bS++o),cq (bm di) di m,tX fy (C.1.1+e.length),sL b5 (wE di m bI pr e).bI,Hi b6 (wE di m bI pr e).pr,oU b7 br,recMap b8 Pb (qq ra) (s4 di 18 84 162 660) (Bn ec)]++([iI (br di) ((wR di now done (wE di m bI pr e).bad r).1 di),fM (Bn ec) (R.1.1+r.length)]++gq di br ra done B)) ?_ ?_
  ·match di,hd with
   | 0,_=>exact iX [1,2,3,4,5,6,7,8,9,0,10,11,12,13,14,15] (by decide) rfl
   | 1,_=>exact iX [1,2,3,4,5,6,7,8,9,0,10,11,12,13,14,15] (by decide) rfl
   | 2,_=>exact iX [1,2,3,4,5,6,7,8,9,0,10,11,12,13,14,15] (by decide) rfl
   | 3,_=>exact iX [1,2,3,4,5,6,7,8,9,0,10,11,12,13,14,15] (by decide) rfl
  refine aD.cons (aD.refl _) (aD.cons (aD.refl _) ?_);have e1:aD [recMap b8 Pb (qq ra) (s4 di 18 84 162 660) (Bn ec)] [zn b8 (cV ra di ec)]:=by
   have:=aD.ex (F:=fun Hs:Nat→Int=>b_ b8 [.u8,.u8] true false ([.slice none 0 0]) (fun i=> !(Hs i==0)) (cI [dI 1 (fun j=>kQ (qq (cV ra di ec) j))])) Pb rfl;rw [Cg hd ra ec]at this;unfold zn;rw [Cg hd ra ec];exact this
  refine aD.trans (aD.cons (aD.refl _) (aD.trans (aD.cons (NO (B':=B+4) (by have:=C.2;omega)) (aD.cons (aD.refl _) (aD.cons (aD.refl _) (aD.cons (aD.refl _) (aD.cons e1 (aD.trans (aD.cons (aD.refl _) (aD.cons (IU (B':=B+4) (by have:=R.2;omega)) (KW hd (Nat.le_add_right B 4)))) (push hd (fun k hk=>NP r hk) ec))))))) u7)) (iX [1,0] (by decide) rfl)
 ·refine aD.trans (b:=(([fN b0 (now:Int) dl bm vf ve b5 b6 b7 b8 false,aB true 216 59 vf.v bS.length (aH bS.length (qo A.1))]++(rO ve b5 b6 b7 b8 bI pr done B br ra++[cq (bm di) di m,HP.star (iu x)])))) ?_ ?_
  ·exact aD.cons (aD.refl _) (aD.cons (aD.refl _) (aD.both (a:=[HP.star (rO ve b5 b6 b7 b8 bI pr done B br ra)]) (b:=rO ve b5 b6 b7 b8 bI pr done B br ra) (c:=[cq (bm di) di m,HP.star (iu x)]) (d:=[cq (bm di) di m,HP.star (iu x)]) (aD.jl (rO ve b5 b6 b7 b8 bI pr done B br ra)) (aD.refl [cq (bm di) di m,HP.star (iu x)])))
  ·refine aD.cons (aD.refl _) (aD.cons (aD.refl _) (aD.cons (aD.refl _) (aD.cons (aD.refl _) (aD.cons (aD.refl _) (aD.cons (aD.refl _) (aD.cons (aD.refl _) ?_))))));refine aD.trans (aD.both (pull hd) (aD.cons (aD.refl _) (aD.jl (iu x)))) ?_;refine iX [0,1,8,9,10,11,2,3,4,5,6,7] (by decide) ?_
   match di,hd with
   | 0,_=>rfl
   | 1,_=>rfl
   | 2,_=>rfl
   | 3,_=>rfl
end Go.RX.Dj
