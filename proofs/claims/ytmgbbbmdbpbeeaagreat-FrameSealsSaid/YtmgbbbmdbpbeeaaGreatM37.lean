/- Sealed texts. -/
import Derived.Test.YtmgbbbmdbpbeeaaGreatM36
import Derived.Test.YtmgbbbmdbpbeeaaGreatFlF
open Classical renaming not_not → ae6
open Go.IntKind renaming wrap → ae
open Go.Proofs.Tryz renaming prog → ae0
open Int renaming toNat → ag, toNat_natCast → afe
open List renaming mem_cons → afd, mem_range → afg, not_mem_nil → ae9
open Nat renaming mod_eq_of_lt → afp, mod_lt → afI
open Option.some renaming injEq → aeX
namespace Go.RX.Fk
open Go Go.RX Go.Proofs Go.Ae Go.RX.Sh Go.RX.Fe Go.RX.Fg Go.RX.Fi Go.RX.Fj Go.Gh Go.Gc
theorem NM{B B':Nat→Nat}(h: ∀j,j<16→B j=B' j)(j:Nat)(hj:j<16):nx B j=nx B' j:=by
 unfold nx vX;rw [h 12 (by decide),h 13 (by decide),h 14 (by decide),h 15 (by decide)];split
 ·exact h j hj
 ·rfl
theorem AM{B B':Nat→Nat}(h: ∀j,j<16→B j=B' j): ∀r j,j<16→CO B r j=CO B' r j
 | 0,j,hj=>h j hj
 | r+1,j,hj=>NM (AM h r) j hj
theorem vi(n:Nat)(K:Nat→Nat){B B' T T':Nat→Nat}(h: ∀j,j<16→B j=B' j){len:Nat}(hT: ∀j,j<len→T j=T' j)(j:Nat)(hj:j<len):cS n K B T j=cS n K B' T' j:=by
 unfold cS;rw [hT j hj,Km n K _ _ (AM h (j/16)) _ (afI _ (by decide))]
theorem ZD(N:Nat→Nat)(j:Nat)(hj:j<16):nx (cA N 1) j=cA N 2 j:=by
 unfold nx;have:vX (cA N 1)=1:=by simp [vX,cA]
 rw [this];by_cases c:j<12
 ·rw [if_pos c];unfold cA;rw [if_pos c,if_pos c]
 ·rw [if_neg c];unfold cA;rw [if_neg c];have:j=12∨j=13∨j=14∨j=15:=by omega
  rcases this with rfl | rfl | rfl | rfl<;>decide
theorem NN(n1 n2 k:Nat)(h1:n1*8<2^64)(h2:n2*8<2^64)(hk:k<16):Kr n1 n2 k=if k<8 then cJ (n1*8) k else cJ (n2*8) (k - 8):=by
 unfold Kr cJ;rw [afp h1,afp h2];have key: ∀i,i<8→2^(56 - 8*i)=256^(7 - i):=by decide
 split
 ·rename_i c;rw [key k c]
 ·rename_i c;rw [key (k - 8) (by omega)]
def WM(n:Nat)(K:Nat→Nat)(r:Value)(nw:List HP):Prop:= ∃o1 o2:V1,r= .agg #[o1.v,o2.v]∧nw=[d_ true o1,dy true o2 n K]
theorem yr{B:List HP}{x y:Value}(hx:x.oneCell'=true)(hy:y.oneCell'=true)(n:Nat)(hn:n=4∨n=8)(K:Nat→Nat)(hK: ∀j,K j<256)(h1:au B (aB x 256 sb))(h2:au B (aB y (4*n) K)):
  aw ae0 99 [x,y] B fun r hs=> ∃o:V1,r=o.v∧hs=B++[aj true o (16*(n+7)) (wf n K)]:=by
 rcases hn with rfl | rfl
 ·refine bJ (aw.post (BP ⟨x,hx⟩ ⟨y,hy⟩ K hK) ?_) (EG h1 h2);rintro r hs ⟨o,hr,rfl⟩;exact⟨[dy true o 4 K],bX.sub (by repeat (first | exact List.Sublist.slnil | apply List.Sublist.cons_cons | apply List.Sublist.cons)),o,hr,rfl⟩
 ·refine bJ (aw.post (BQ ⟨x,hx⟩ ⟨y,hy⟩ K hK) ?_) (EG h1 h2);rintro r hs ⟨o,hr,rfl⟩;exact⟨[dy true o 8 K],bX.sub (by repeat (first | exact List.Sublist.slnil | apply List.Sublist.cons_cons | apply List.Sublist.cons)),o,hr,rfl⟩
theorem KA(v0:V1)(n:Nat)(hn:n=4∨n=8)(K:Nat→Nat)(hK: ∀j,K j<256):aw ae0 72 [v0.v] [aj false v0 (4*n) K] fun r hs=> ∃nw,WM n K r nw∧hs=nw:=by
 refine aw.post (p:=fun r hs=> ∃o1 o2:V1,r= .agg #[o1.v,o2.v]∧hs.drop 2=[d_ true o1,dy true o2 n K]) ?_ ?_;rotate_left
 ·rintro r hs ⟨o1,o2,hr,h⟩;exact⟨_,bX.sub (h▸List.drop_sublist 2 hs),_,⟨o1,o2,hr,rfl⟩,rfl⟩
 refine O4 _ ((4*n:Nat):Int) (fun j=>(K j:Nat)) v0 ?_;unfold Ht;intro b0;refine⟨_,ni,?_⟩;rintro x hs ⟨o1,rfl,rfl⟩;refine⟨o1,fun j=>(sb j:Nat),rfl,rfl,?_⟩;refine⟨_,yr (B:=[d_ true o1,aj false v0 (4*n) K]) o1.one v0.one n hn K hK (au.get 0 rfl) (au.get 1 rfl),?_⟩;rintro x hs ⟨o2,rfl,rfl⟩;exact⟨o2,((16*(n+7):Nat):Int),fun j=>(wf n K j:Nat),rfl,rfl,o1,o2,rfl,rfl⟩
theorem AO{B:List HP}{x:Value}(hx:x.oneCell'=true)(n:Nat)(hn:n=4∨n=8)(K:Nat→Nat)(hK: ∀j,K j<256)(h:au B (aB x (4*n) K)):
  aw ae0 72 [x] B fun r hs=> ∃o1 o2:V1,r= .agg #[o1.v,o2.v]∧hs=B++[d_ true o1,dy true o2 n K]:=by
 have hm:=KA ⟨x,hx⟩ n hn K hK;have h2:aw ae0 72 [x] ([]++[aB x (4*n) K]) fun r hs=> ∃nw,WM n K r nw∧hs=[]++nw:=hm
 refine aw.post (aw.fp h2 (by simp) ?_ (pK h)) ?_
 ·rintro v nw ⟨o1,o2,_,rfl⟩ y hy;simp only [afd,ae9,or_false]at hy;rcases hy with rfl | rfl<;>rfl
 ·rintro r hs ⟨nw,⟨o1,o2,hr,rfl⟩,rfl⟩;exact⟨_,bX.refl _,o1,o2,hr,rfl⟩
theorem ES(N:Nat→Nat)(c:Nat)(_: ∀j,N j<256)(j:Nat)(hj:j<16):aI (fun j=>((N j:Nat):Int)) 12 4 (aq (aq (aq (aq (fun _=>0) 0 0) 1 0) 2 0) 3 (c:Int)) j=((cA N c j:Nat):Int):=by
 unfold aI cA;by_cases h:j<12
 ·rw [if_neg (by omega),if_pos h]
 ·rw [if_pos (by omega),if_neg h];have:j=12∨j=13∨j=14∨j=15:=by omega
  rcases this with rfl | rfl | rfl | rfl<;>rfl
theorem ET(v0 v1 v2 v3:V1)(n:Nat)(hn:0<n)(oN:n<100)(K N T:Nat→Nat)(hK: ∀j,K j<256)(hN: ∀j,N j<256)(hT: ∀j,T j<256)(len:Nat)(hl:len≤140737488355328):
  aw ae0 100 [.agg #[v0.v,v1.v],v2.v,v3.v] [d_ false v0,dy false v1 n K,aj false v2 12 N,aj false v3 len T] fun r hs=> ∃o:V1,r=o.v∧hs=[aj true o len (cS n K (cA N 2) T)]:=by
 refine Jc _ ((16*(n+7):Nat):Int) (len:Int) (fun j=>(sb j:Nat)) (fun j=>(wf n K j:Nat)) (fun j=>(N j:Nat)) (fun j=>(T j:Nat)) v0 v1 v2 v3 ?_;unfold zQ;have hC:=f_ hN (c:=2) (by decide);have eC: ∀v6:V1,aE true 5 1 v6.v 16 (aQ 16 [aO .u8 1 (aI (fun j=>((N j:Nat):Int)) 12 4 (aq (aq (aq (aq (fun _=>0) 0 0) 1 0) 2 0) 3 2))])=aj true v6 16 (cA N 2):=fun v6=>by
  exact congrArg (aE true 5 1 v6.v 16) (aW fun j hj=>ES N 2 hN j hj)
 have key:=fun v6:V1=>dO (B:=[d_ false v0,dy false v1 n K,aj true v6 16 (cA N 2),aj false v3 len T]) v0.one v1.one v6.one v3.one n hn oN K (cA N 2) T hK hC hT len hl (au.get 0 rfl) (au.get 1 rfl) (au.get 2 rfl) (au.get 3 rfl)
 intro b0;have fin: ∀v6:V1,∀x hs,(∃o:V1,x=o.v∧hs=[d_ false v0,dy false v1 n K,aj true v6 16 (cA N 2),aj false v3 len T]++[aj true o len (cS n K (cA N 2) T)])→
   ∃v7:V1,∃x2:Int,∃A4:(Nat→Int),x=v7.v∧hs=[d_ false v0,dy false v1 n K,aj true v6 16 (cA N 2),aj false v3 len T,aE true 5 1 v7.v (ag x2) (aQ (ag x2) [aO .u8 1 A4])]∧
    ∃o:V1,v7.v=o.v∧[aE true 5 1 v7.v (ag x2) (aQ (ag x2) [aO .u8 1 A4])]=[aj true o len (cS n K (cA N 2) T)]:=by
  rintro v6 x hs ⟨o,rfl,rfl⟩;exact⟨o,(len:Int),fun j=>(cS n K (cA N 2) T j:Nat),rfl,rfl,o,rfl,rfl⟩
 dsimp only [bo,bi,bn];refine⟨fun v4=>⟨fun v5 b1 v6=>?_,fun b1 v5 v6=>?_⟩,fun b1 v4 v5 v6=>?_⟩<;>rw [eC v6]<;>exact⟨_,key v6,fin v6⟩
theorem vp{B:List HP}{x0 x1 x2 x3:Value}(h0:x0.oneCell'=true)(h1:x1.oneCell'=true)(h2:x2.oneCell'=true)(h3:x3.oneCell'=true)(n:Nat)(hn:0<n)(oN:n<100)(K N T:Nat→Nat)(hK: ∀j,K j<256)(hN: ∀j,N j<256)(hT: ∀j,T j<256)(len:Nat)(hl:len≤140737488355328)
  (b0:au B (aB x0 256 sb)) (b1:au B (aB x1 (16*(n+7)) (wf n K))) (b2:au B (aB x2 12 N)) (b3:au B (aB x3 len T)):
  aw ae0 100 [.agg #[x0,x1],x2,x3] B fun r hs=> ∃o:V1,r=o.v∧hs=B++[aj true o len (de n K N T)]:=by
 refine aw.post (bJ (ET ⟨x0,h0⟩ ⟨x1,h1⟩ ⟨x2,h2⟩ ⟨x3,h3⟩ n hn oN K N T hK hN hT len hl) (Np b0 b1 b2 b3)) ?_;rintro r hs ⟨o,hr,rfl⟩;refine⟨_,bX.refl _,o,hr,?_⟩;rw [show aj true o len (cS n K (cA N 2) T)=aj true o len (de n K N T)from Ez fun j hj=>vi n K (fun i hi=>(ZD N i hi).symm) (fun _ _=>rfl) j hj]
open Go Go.RX Go.Proofs Go.Ae Go.RX.Sh Go.RX.Fe Go.RX.Fg Go.RX.Fi Go.RX.Fj Go.Gh Go.Gc
theorem NP(n1 n2:Nat)(A T:Nat→Nat)(h1:n1*8<2^64)(h2:n2*8<2^64)(j:Nat)(hj:j<BU n1 n2):
  aI (aI (aI (fun j=>((zv n1 A j:Nat):Int)) (n1+cg n1) (n2+cg n2) fun j=>((zv n2 T j:Nat):Int)) (n1+cg n1+(n2+cg n2)) 8 fun j=>((cJ (n1*8) j:Nat):Int)) (n1+cg n1+(n2+cg n2)+8) 8 (fun j=>((cJ (n2*8) j:Nat):Int)) j=((y5 n1 A n2 T j:Nat):Int):=by
 unfold BU at hj;unfold aI y5 zv;by_cases c1:j<n1
 ·rw [if_neg (by omega),if_neg (by omega),if_neg (by omega),if_pos c1];dsimp only;rw [if_pos c1]
 rw [if_neg c1];by_cases c2:j<n1+cg n1
 ·rw [if_neg (by omega),if_neg (by omega),if_neg (by omega),if_pos c2];dsimp only;rw [if_neg c1]
 rw [if_neg c2];by_cases c3:j<n1+cg n1+n2
 ·rw [if_neg (by omega),if_neg (by omega),if_pos (by omega),if_pos c3];dsimp only;rw [if_pos (by omega)]
 rw [if_neg c3];by_cases c4:j<n1+cg n1+n2+cg n2
 ·rw [if_neg (by omega),if_neg (by omega),if_pos (by omega),if_pos c4];dsimp only;rw [if_neg (by omega)]
 rw [if_neg c4,NN n1 n2 _ h1 h2 (by omega)];by_cases c5:j<n1+cg n1+(n2+cg n2)+8
 ·rw [if_neg (by omega),if_pos (by omega),if_pos (by omega),show n1+cg n1+(n2+cg n2)=n1+cg n1+n2+cg n2 by omega]
 ·rw [if_pos (by omega),if_neg (by omega),show j - (n1+cg n1+(n2+cg n2)+8)=j - (n1+cg n1+n2+cg n2) - 8 by omega]
set_option maxHeartbeats 1000000 in
theorem ui(v0 v1 v2 v3 v4:V1)(n:Nat)(hn:0<n)(oN:n<100)(K N A T:Nat→Nat)(hK: ∀j,K j<256)(hN: ∀j,N j<256)(hA: ∀j,A j<256)(hT: ∀j,T j<256)(n1 n2:Nat)(hl:n1+n2+200≤140737488355328):
  aw ae0 101 [.agg #[v0.v,v1.v],v2.v,v3.v,v4.v] [d_ false v0,dy false v1 n K,aj false v2 12 N,aj false v3 n1 A,aj false v4 n2 T] fun r hs=> ∃o:V1,r=o.v∧hs=[aj true o 16 (iF n K N n1 A n2 T)]:=by
 refine O3 _ ((16*(n+7):Nat):Int) (n1:Int) (n2:Int) (fun j=>(sb j:Nat)) (fun j=>(wf n K j:Nat)) (fun j=>(N j:Nat)) (fun j=>(A j:Nat)) (fun j=>(T j:Nat)) v0 v1 v2 v3 v4 ?_;unfold Hs;have hp1:=sX n1;have hp2:=sX n2;intro b0;refine⟨_,bJ (B:=[aj false v3 n1 A]) (kK v3 A n1 (by omega)) (pK (au.get 0 rfl)),?_⟩;rintro x hs ⟨v5,rfl,rfl⟩;refine⟨v5,((n1+cg n1:Nat):Int),fun j=>(zv n1 A j:Nat),rfl,rfl,?_⟩;refine⟨_,bJ (B:=[aj false v4 n2 T]) (kK v4 T n2 (by omega)) (pK (au.get 0 rfl)),?_⟩;rintro x hs ⟨v6,rfl,rfl⟩;refine⟨v6,((n2+cg n2:Nat):Int),fun j=>(zv n2 T j:Nat),rfl,rfl,?_⟩
 iterate 4 refine⟨by omega,fun _=>?_⟩
 intro v7;refine⟨_,bJ (B:=[aj false v3 n1 A]) (vn v3 A n1 (by omega)) (pK (au.get 0 rfl)),?_⟩;rintro x hs ⟨v8,rfl,rfl⟩;refine⟨v8,fun j=>(cJ (n1*8) j:Nat),rfl,rfl,?_⟩;refine⟨by omega,fun _=>⟨by omega,fun _=>?_⟩⟩;intro v9;refine⟨_,bJ (B:=[aj false v4 n2 T]) (vn v4 T n2 (by omega)) (pK (au.get 0 rfl)),?_⟩;rintro x hs ⟨v10,rfl,rfl⟩;refine⟨v10,fun j=>(cJ (n2*8) j:Nat),rfl,rfl,?_⟩;refine⟨by omega,fun _=>⟨by omega,fun _=>?_⟩⟩;intro v11 oL;have hz: ∀j:Nat,(fun _:Nat=>0) j<256:=fun _=>(by show 0<256;decide)
 refine⟨_,yj (B:=[d_ false v0,dy false v1 n K,aj true oL 16 fun _=>0]) v0.one v1.one oL.one n hn oN K (fun _=>0) hK hz (au.get 0 rfl) (au.get 1 rfl) (au.get 2 rfl),?_⟩;rintro x hs ⟨qp,rfl,rfl⟩;refine⟨qp,fun j=>(enc n K (fun _=>0) j:Nat),rfl,rfl,?_⟩;have t3:ag ((n1+cg n1:Nat):Int)=n1+cg n1:=rfl;have t4:ag ((n2+cg n2:Nat):Int)=n2+cg n2:=rfl;have t5:ag (((n1+cg n1:Nat):Int)+((n2+cg n2:Nat):Int))=n1+cg n1+(n2+cg n2):=by omega
 have t6:ag (((n1+cg n1:Nat):Int)+((n2+cg n2:Nat):Int)+8)=n1+cg n1+(n2+cg n2)+8:=by omega
 have t7:ag (((n1+cg n1:Nat):Int)+((n2+cg n2:Nat):Int)+8+8)=BU n1 n2:=by unfold BU;omega
 dsimp only [bo,bi,bn];rw [t3,t4,t5,t6,t7];rw [aW (n:=BU n1 n2) fun j hj=>NP n1 n2 A T (by omega) (by omega) j hj];have hE:=rF n K (fun _=>0) hK hz;have hG: ∀j,y5 n1 A n2 T j<256:=Nq hA hT;have hgl:BU n1 n2≤140737488355328:=by unfold BU;omega
 have hH:=yn (enc n K fun _=>0) (y5 n1 A n2 T) (BU n1 n2);have hC:=f_ hN (c:=1) (by decide);have eC: ∀tC:V1,aE true 5 1 tC.v 16 (aQ 16 [aO .u8 1 (aI (fun j=>((N j:Nat):Int)) 12 4 (aq (aq (aq (aq (fun _=>0) 0 0) 1 0) 2 0) 3 1))])=aj true tC 16 (cA N 1):=fun tC=>
  congrArg (aE true 5 1 tC.v 16) (aW fun j hj=>ES N 1 hN j hj)
 have WN:=Gy (B:=[aj true qp 16 (enc n K fun _=>0),aj true v11 (BU n1 n2) (y5 n1 A n2 T)]) qp.one v11.one (enc n K fun _=>0) (y5 n1 A n2 T) hE hG (BU n1 n2) hgl (au.get 0 rfl) (au.get 1 rfl);have WO:=fun tC rQ:V1=>dO (B:=[d_ false v0,dy false v1 n K,aj true tC 16 (cA N 1),aj true rQ 16 (j5 (enc n K fun _=>0) (y5 n1 A n2 T) (BU n1 n2))]) v0.one v1.one tC.one rQ.one n hn oN K (cA N 1) _ hK hC hH 16 (by decide) (au.get 0 rfl) (au.get 1 rfl) (au.get 2 rfl) (au.get 3 rfl)
 refine⟨fun Sy=>⟨fun K3 b1 tC=>?_,fun b1 K3 tC=>?_⟩,fun b1 Sy K3 tC=>?_⟩<;>
 ·refine⟨_,WN,?_⟩;rintro x hs ⟨rQ,rfl,rfl⟩;refine⟨rQ,fun j=>(j5 (enc n K fun _=>0) (y5 n1 A n2 T) (BU n1 n2) j:Nat),rfl,rfl,?_⟩;rw [eC tC];refine⟨_,WO tC rQ,?_⟩;rintro x hs ⟨wS,rfl,rfl⟩;exact⟨wS,16,fun j=>(iF n K N n1 A n2 T j:Nat),rfl,rfl,wS,rfl,rfl⟩
theorem jE{B:List HP}{x0 x1 x2 x3 x4:Value}(h0:x0.oneCell'=true)(h1:x1.oneCell'=true)(h2:x2.oneCell'=true)(h3:x3.oneCell'=true)(h4:x4.oneCell'=true)(n:Nat)(hn:0<n)(oN:n<100)(K N A T:Nat→Nat)(hK: ∀j,K j<256)(hN: ∀j,N j<256)(hA: ∀j,A j<256)(hT: ∀j,T j<256)(n1 n2:Nat)(hl:n1+n2+200≤140737488355328)
  (b0:au B (aB x0 256 sb)) (b1:au B (aB x1 (16*(n+7)) (wf n K))) (b2:au B (aB x2 12 N)) (b3:au B (aB x3 n1 A)) (b4:au B (aB x4 n2 T)):
  aw ae0 101 [.agg #[x0,x1],x2,x3,x4] B fun r hs=> ∃o:V1,r=o.v∧hs=B++[aj true o 16 (iF n K N n1 A n2 T)]:=
 bJ (ui ⟨x0,h0⟩ ⟨x1,h1⟩ ⟨x2,h2⟩ ⟨x3,h3⟩ ⟨x4,h4⟩ n hn oN K N A T hK hN hA hT n1 n2 hl) (QZ b0 b1 b2 b3 b4)
set_option maxHeartbeats 1000000 in
theorem EU(v0 v1 v2 v3 v4:V1)(n:Nat)(hn:0<n)(oN:n<100)(K N A T:Nat→Nat)(hK: ∀j,K j<256)(hN: ∀j,N j<256)(hA: ∀j,A j<256)(hT: ∀j,T j<256)(n1 n2:Nat)(hl:n1+n2+200≤140737488355328):
  aw ae0 73 [.agg #[v0.v,v1.v],v2.v,v3.v,v4.v] [d_ false v0,dy false v1 n K,aj false v2 12 N,aj false v3 n1 A,aj false v4 n2 T] fun r hs=> ∃o:V1,r=o.v∧hs=[aj true o (n2+16) (gE n K N n1 A n2 T)]:=by
 refine aw.post (p:=fun r hs=> ∃o:V1,r=o.v∧hs[0]? =some (aj true o (n2+16) (gE n K N n1 A n2 T))) ?_ ?_;rotate_left
 ·rintro r hs ⟨o,rfl,h⟩;exact⟨_,bX.lY 0 h,o,rfl,rfl⟩
 refine Lq _ ((16*(n+7):Nat):Int) (n1:Int) (n2:Int) (fun j=>(sb j:Nat)) (fun j=>(wf n K j:Nat)) (fun j=>(N j:Nat)) (fun j=>(A j:Nat)) (fun j=>(T j:Nat)) v0 v1 v2 v3 v4 ?_;unfold CR;intro b0;refine⟨_,vp (B:=[d_ false v0,dy false v1 n K,aj false v2 12 N,aj false v4 n2 T]) v0.one v1.one v2.one v4.one n hn oN K N T hK hN hT n2 (by omega) (au.get 0 rfl) (au.get 1 rfl) (au.get 2 rfl) (au.get 3 rfl),?_⟩;rintro x hs ⟨v5,rfl,rfl⟩;refine⟨v5,(n2:Int),fun j=>(de n K N T j:Nat),rfl,rfl,?_⟩;intro v6
 iterate 3 refine⟨by omega,fun _=>?_⟩
 intro v7;have hY:=pL (n:=n) hK hN hT;refine⟨_,jE (B:=[d_ false v0,dy false v1 n K,aj false v2 12 N,aj false v3 n1 A,aj true v5 n2 (de n K N T)]) v0.one v1.one v2.one v3.one v5.one n hn oN K N A (de n K N T) hK hN hA hY n1 n2 hl (au.get 0 rfl) (au.get 1 rfl) (au.get 2 rfl) (au.get 3 rfl) (au.get 4 rfl),?_⟩;rintro x hs ⟨v8,rfl,rfl⟩;refine⟨v8,fun j=>(iF n K N n1 A n2 (de n K N T) j:Nat),rfl,rfl,?_⟩;refine⟨by omega,fun _=>?_⟩;intro v9;refine⟨v9,rfl,congrArg some ?_⟩;have t1:ag ((n2:Int)+16)=n2+16:=by omega
 have t2:ag (n2:Int)=n2:=rfl;dsimp only [bo,bi,bn];rw [t1,t2];unfold aj;rw [aW (n:=n2+16) (g:=fun j=>((gE n K N n1 A n2 T j:Nat):Int))];intro j hj;unfold aI gE;by_cases c:j<n2
 ·rw [if_neg (by omega),if_pos c]
 ·rw [if_pos (by omega),if_neg c]
theorem EV{B:List HP}{x0 x1 x2 x3 x4:Value}(h0:x0.oneCell'=true)(h1:x1.oneCell'=true)(h2:x2.oneCell'=true)(h3:x3.oneCell'=true)(h4:x4.oneCell'=true)(n:Nat)(hn:0<n)(oN:n<100)(K N A T:Nat→Nat)(hK: ∀j,K j<256)(hN: ∀j,N j<256)(hA: ∀j,A j<256)(hT: ∀j,T j<256)(n1 n2:Nat)(hl:n1+n2+200≤140737488355328)
  (b0:au B (aB x0 256 sb)) (b1:au B (aB x1 (16*(n+7)) (wf n K))) (b2:au B (aB x2 12 N)) (b3:au B (aB x3 n1 A)) (b4:au B (aB x4 n2 T)):
  aw ae0 73 [.agg #[x0,x1],x2,x3,x4] B fun r hs=> ∃o:V1,r=o.v∧hs=B++[aj true o (n2+16) (gE n K N n1 A n2 T)]:=
 bJ (EU ⟨x0,h0⟩ ⟨x1,h1⟩ ⟨x2,h2⟩ ⟨x3,h3⟩ ⟨x4,h4⟩ n hn oN K N A T hK hN hA hT n1 n2 hl) (QZ b0 b1 b2 b3 b4)
theorem ofNat_inj{a b:Nat}(ha:a<256)(hb:b<256)(h:UInt8.ofNat a=UInt8.ofNat b):a=b:=by
 have:=congrArg UInt8.toNat h;simp only [UInt8.toNat_ofNat']at this;omega
theorem B7{n m:Nat}{F G:Nat→Int}{A B:Nat→Nat}(hF: ∀j,j<n→F j=(A j:Nat))(hG: ∀j,j<m→G j=(B j:Nat))(hA: ∀j,A j<256)(hB: ∀j,B j<256):
  cj (g9 F (n:Int))=cj (g9 G (m:Int))↔n=m∧∀j,j<n→A j=B j:=by
 rw [AB,AB,afe,afe];constructor
 ·intro h;have hl:=congrArg List.length h;simp only [List.length_map,List.length_range]at hl;subst hl;refine⟨rfl,fun j hj=>?_⟩;have:=congrArg (fun l=>l[j]?) h;simp only [List.getElem?_map,List.getElem?_range hj,Option.map_some,aeX,hF j hj,hG j hj,afe]at this;exact ofNat_inj (hA j) (hB j) this
 ·rintro ⟨rfl,h⟩;refine List.map_congr_left fun j hj=>?_
  have hj:=afg.1 hj;rw [hF j hj,hG j hj,h j hj]
def GK(n:Nat)(K N:Nat→Nat)(n1:Nat)(A:Nat→Nat)(m:Nat)(T:Nat→Nat)(r:Value)(nw:List HP):Prop:=
 (opens n K N n1 A m T∧∃o:V1,r= .tuple #[o.v,.bool true]∧nw=[aj true o (m - 16) (de n K N T)])∨(¬opens n K N n1 A m T∧r= .tuple #[.slice none 0 0,.bool false]∧nw=[])
set_option maxHeartbeats 1000000 in
theorem EW(v0 v1 v2 v3 v4:V1)(n:Nat)(hn:0<n)(oN:n<100)(K N A T:Nat→Nat)(hK: ∀j,K j<256)(hN: ∀j,N j<256)(hA: ∀j,A j<256)(hT: ∀j,T j<256)(n1 m:Nat)(hl:n1+m+200≤140737488355328):
  aw ae0 76 [.agg #[v0.v,v1.v],v2.v,v3.v,v4.v] [d_ false v0,dy false v1 n K,aj false v2 12 N,aj false v3 n1 A,aj false v4 m T] fun r hs=> ∃nw,GK n K N n1 A m T r nw∧hs=nw:=by
 refine aw.post (p:=fun r hs=>(opens n K N n1 A m T∧∃o:V1,r= .tuple #[o.v,.bool true]∧hs=[aj true o (m - 16) (de n K N T)])∨(¬opens n K N n1 A m T∧r= .tuple #[.slice none 0 0,.bool false])) ?_ ?_;rotate_left
 ·rintro r hs (⟨h,o,hr,rfl⟩ | ⟨h,hr⟩)
  ·exact⟨_,bX.refl _,_,.inl ⟨h,o,hr,rfl⟩,rfl⟩
  ·exact⟨[],bX.sub (List.nil_sublist _),_,.inr ⟨h,hr,rfl⟩,rfl⟩
 refine Lr _ ((16*(n+7):Nat):Int) (n1:Int) (m:Int) (fun j=>(sb j:Nat)) (fun j=>(wf n K j:Nat)) (fun j=>(N j:Nat)) (fun j=>(A j:Nat)) (fun j=>(T j:Nat)) v0 v1 v2 v3 v4 ?_;unfold CS;intro b0
 iterate 10 refine⟨by omega,fun _=>?_⟩
 refine⟨fun iH=>?_,fun bU=>?_⟩
 ·have hm:16≤m:=by omega
  have tm:ag ((m:Int) - 16)=m - 16:=by omega
  have tm2:(m:Int) - ((m:Int) - 16)=((16:Nat):Int):=by omega
  rw [tm,tm2];have part: ∀{B:List HP},au B (aB v4.v m T)→au B (aB (aD 1 v4.v 0 (m - 16) none) (m - 16) T):=fun hb=>by
   have:=au.part (lo:=0) (hi:=m - 16) (mx:=none) hb (by omega) (by omega) (fun _ h=>nomatch h);simpa using this
  refine⟨_,jE (B:=[d_ false v0,dy false v1 n K,aj false v2 12 N,aj false v3 n1 A,aj false v4 m T]) v0.one v1.one v2.one v3.one (aK _ _ _ _ _) n hn oN K N A T hK hN hA hT n1 (m - 16) (by omega) (au.get 0 rfl) (au.get 1 rfl) (au.get 2 rfl) (au.get 3 rfl) (part (au.get 4 rfl)),?_⟩;rintro x hs ⟨v5,rfl,rfl⟩;refine⟨v5,fun j=>(iF n K N n1 A (m - 16) T j:Nat),rfl,rfl,?_⟩;have hg:=wJ (n:=n) hK hN n1 A (m - 16) T;have hs:=B7 (n:=16) (m:=16) (F:=fun j=>((iF n K N n1 A (m - 16) T j:Nat):Int)) (G:=aA (fun j=>((T j:Nat):Int)) (m - 16)) (A:=iF n K N n1 A (m - 16) T) (B:=fun j=>T (m - 16+j)) (fun _ _=>rfl) (fun _ _=>rfl) hg (fun j=>hT _);refine⟨fun eZ=>?_,fun heq=>?_⟩
  ·refine .inr ⟨fun ho=>eZ (hs.2 ⟨rfl,ho.2⟩),rfl⟩
  ·have ho:opens n K N n1 A m T:=⟨hm,(hs.1 (ae6.1 heq)).2⟩;refine⟨by omega,fun _=>⟨by omega,fun _=>?_⟩⟩;refine⟨_,vp (B:=[d_ false v0,dy false v1 n K,aj false v2 12 N,aj false v4 m T]) v0.one v1.one v2.one (aK _ _ _ _ _) n hn oN K N T hK hN hT (m - 16) (by omega) (au.get 0 rfl) (au.get 1 rfl) (au.get 2 rfl) (part (au.get 3 rfl)),?_⟩;rintro x hs ⟨v6,rfl,rfl⟩;exact⟨v6,((m - 16:Nat):Int),fun j=>(de n K N T j:Nat),rfl,rfl,.inl ⟨ho,v6,rfl,rfl⟩⟩
 ·exact .inr ⟨fun ho=>absurd ho.1 (by omega),rfl⟩
theorem EX{B:List HP}{x0 x1 x2 x3 x4:Value}(h0:x0.oneCell'=true)(h1:x1.oneCell'=true)(h2:x2.oneCell'=true)(h3:x3.oneCell'=true)(h4:x4.oneCell'=true)(n:Nat)(hn:0<n)(oN:n<100)(K N A T:Nat→Nat)(hK: ∀j,K j<256)(hN: ∀j,N j<256)(hA: ∀j,A j<256)(hT: ∀j,T j<256)(n1 m:Nat)(hl:n1+m+200≤140737488355328)
  (b0:au B (aB x0 256 sb)) (b1:au B (aB x1 (16*(n+7)) (wf n K))) (b2:au B (aB x2 12 N)) (b3:au B (aB x3 n1 A)) (b4:au B (aB x4 m T)):
  aw ae0 76 [.agg #[x0,x1],x2,x3,x4] B fun r hs=> ∃nw,GK n K N n1 A m T r nw∧hs=B++nw:=by
 have hm:aw ae0 76 [.agg #[x0,x1],x2,x3,x4] ([]++[aB x0 256 sb,aB x1 (16*(n+7)) (wf n K),aB x2 12 N,aB x3 n1 A,aB x4 m T]) fun r hs=> ∃nw,GK n K N n1 A m T r nw∧hs=[]++nw:=
  EW ⟨x0,h0⟩ ⟨x1,h1⟩ ⟨x2,h2⟩ ⟨x3,h3⟩ ⟨x4,h4⟩ n hn oN K N A T hK hN hA hT n1 m hl
 refine aw.fp hm (by simp) ?_ (QZ b0 b1 b2 b3 b4);rintro v nw (⟨_,o,_,rfl⟩ | ⟨_,_,rfl⟩) h hh
 ·simp only [afd,ae9,or_false]at hh;subst hh;rfl
 ·cases hh
end Go.RX.Fk

namespace Go.RX.Fl
open Go Go.RX Go.Proofs Go.RX.Sh Go.RX.Fg Go.RX.Fi Go.RX.Fj Go.RX.Fk Go.Hd Go.Gh Go.Gc Go.Ae Go.RX.Fe Go.Se
theorem jG{t:Nat}:bX [] [aE true t 1 (.slice none 0 0) 0 []]:=by
 intro w Fs o;refine bK.add (a:=[]) o _ (fun _=>False) (Nat.le_refl _) (fun _ _=>rfl) ⟨?_,fun k=>by simp [Value.ownBlock]⟩ fun _ h=>h.elim
 simp only [if_true];exact js w t 1
theorem uj{m:Nat}(h:m<2^64):ae .u64 (ak .quo .u64 (m:Int) 256)=((m/256:Nat):Int):=by
 have e:ak .quo .u64 (m:Int) 256=((m/256:Nat):Int):=rfl;rw [e,oD (Nat.lt_of_le_of_lt (Nat.div_le_self _ _) h)]
theorem T_(m:Nat):ae .u8 (ak .rem .u64 (m:Int) 256)=((m%256:Nat):Int):=by
 have e:ak .rem .u64 (m:Int) 256=((m%256:Nat):Int):=rfl;rw [e,wrap_u8];congr 1;omega
theorem pP{B:List HP}(n:Nat)(hn:n<2^63):aw ae0 103 [.int .i64 (n:Int)] B fun r hs=> ∃o:V1,r=o.v∧hs=B++[aj true o 8 (cJ n)]:=by
 refine bJ (L:=[]) ?_ (by simp);refine Jf _ (n:Int) ?_;unfold zT;intro v0;refine⟨v0,rfl,?_⟩;unfold aj;dsimp only [bo,bi,bn];rw [aW fun j hj=>EK hn j hj]
set_option maxHeartbeats 1000000 in
theorem NQ(S:Nat→Nat)(hS: ∀j,S j<256){c:Nat}(hc:c<2^64)(j:Nat)(hj:j<12):
  (aq (aq (aq (aq (aq (aq (aq (aq (aq (aq (aq (aq (fun j=>((S j:Nat):Int)) 11 (ak .ay .u8 ((S 11:Nat):Int) (ae .u8 (ak .rem .u64 ((c:Nat):Int) 256)))) 10 (ak .ay .u8 ((S 10:Nat):Int) (ae .u8 (ak .rem .u64 (ae .u64 (ak .quo .u64 ((c:Nat):Int) 256)) 256)))) 9 (ak .ay .u8 ((S 9:Nat):Int) (ae .u8 (ak .rem .u64 (ae .u64 (ak .quo .u64 (ae .u64 (ak .quo .u64 ((c:Nat):Int) 256)) 256)) 256)))) 8 (ak .ay .u8 ((S 8:Nat):Int) (ae .u8 (ak .rem .u64 (ae .u64 (ak .quo .u64 (ae .u64 (ak .quo .u64 (ae .u64 (ak .quo .u64 ((c:Nat):Int) 256)) 256)) 256)) 256)))) 7 (ak .ay .u8 ((S 7:Nat):Int) (ae .u8 (ak .rem .u64 (ae .u64 (ak .quo .u64 (ae .u64 (ak .quo .u64 (ae .u64 (ak .quo .u64 (ae .u64 (ak .quo .u64 ((c:Nat):Int) 256)) 256)) 256)) 256)) 256)))) 6 (ak .ay .u8 ((S 6:Nat):Int) (ae .u8 (ak .rem .u64 (ae .u64 (ak .quo .u64 (ae .u64 (ak .quo .u64 (ae .u64 (ak .quo .u64 (ae .u64 (ak .quo .u64 (ae .u64 (ak .quo .u64 ((c:Nat):Int) 256)) 256)) 256)) 256)) 256)) 256)))) 5 (ak .ay .u8 ((S 5:Nat):Int) (ae .u8 (ak .rem .u64 (ae .u64 (ak .quo .u64 (ae .u64 (ak .quo .u64 (ae .u64 (ak .quo .u64 (ae .u64 (ak .quo .u64 (ae .u64 (ak .quo .u64 (ae .u64 (ak .quo .u64 ((c:Nat):Int) 256)) 256)) 256)) 256)) 256)) 256)) 256)))) 4 (ak .ay .u8 ((S 4:Nat):Int) (ae .u8 (ak .rem .u64 (ae .u64 (ak .quo .u64 (ae .u64 (ak .quo .u64 (ae .u64 (ak .quo .u64 (ae .u64 (ak .quo .u64 (ae .u64 (ak .quo .u64 (ae .u64 (ak .quo .u64 (ae .u64 (ak .quo .u64 ((c:Nat):Int) 256)) 256)) 256)) 256)) 256)) 256)) 256)) 256)))) 3 (ak .ay .u8 ((S 3:Nat):Int) (ae .u8 (ak .rem .u64 (ae .u64 (ak .quo .u64 (ae .u64 (ak .quo .u64 (ae .u64 (ak .quo .u64 (ae .u64 (ak .quo .u64 (ae .u64 (ak .quo .u64 (ae .u64 (ak .quo .u64 (ae .u64 (ak .quo .u64 (ae .u64 (ak .quo .u64 ((c:Nat):Int) 256)) 256)) 256)) 256)) 256)) 256)) 256)) 256)) 256)))) 2 (ak .ay .u8 ((S 2:Nat):Int) (ae .u8 (ak .rem .u64 (ae .u64 (ak .quo .u64 (ae .u64 (ak .quo .u64 (ae .u64 (ak .quo .u64 (ae .u64 (ak .quo .u64 (ae .u64 (ak .quo .u64 (ae .u64 (ak .quo .u64 (ae .u64 (ak .quo .u64 (ae .u64 (ak .quo .u64 (ae .u64 (ak .quo .u64 ((c:Nat):Int) 256)) 256)) 256)) 256)) 256)) 256)) 256)) 256)) 256)) 256)))) 1 (ak .ay .u8 ((S 1:Nat):Int) (ae .u8 (ak .rem .u64 (ae .u64 (ak .quo .u64 (ae .u64 (ak .quo .u64 (ae .u64 (ak .quo .u64 (ae .u64 (ak .quo .u64 (ae .u64 (ak .quo .u64 (ae .u64 (ak .quo .u64 (ae .u64 (ak .quo .u64 (ae .u64 (ak .quo .u64 (ae .u64 (ak .quo .u64 (ae .u64 (ak .quo .u64 ((c:Nat):Int) 256)) 256)) 256)) 256)) 256)) 256)) 256)) 256)) 256)) 256)) 256)))) 0 (ak .ay .u8 ((S 0:Nat):Int) (ae .u8 (ak .rem .u64 (ae .u64 (ak .quo .u64 (ae .u64 (ak .quo .u64 (ae .u64 (ak .quo .u64 (ae .u64 (ak .quo .u64 (ae .u64 (ak .quo .u64 (ae .u64 (ak .quo .u64 (ae .u64 (ak .quo .u64 (ae .u64 (ak .quo .u64 (ae .u64 (ak .quo .u64 (ae .u64 (ak .quo .u64 (ae .u64 (ak .quo .u64 ((c:Nat):Int) 256)) 256)) 256)) 256)) 256)) 256)) 256)) 256)) 256)) 256)) 256)) 256)))) j=((aJ S c j:Nat):Int):=by
 have l: ∀{k:Nat},k<2^64→k/256<2^64:=fun h=>Nat.lt_of_le_of_lt (Nat.div_le_self _ _) h
 rw [uj hc];rw [uj (l hc)];rw [uj (l (l hc))];rw [uj (l (l (l hc)))];rw [uj (l (l (l (l hc))))];rw [uj (l (l (l (l (l hc)))))];rw [uj (l (l (l (l (l (l hc))))))];rw [uj (l (l (l (l (l (l (l hc)))))))];rw [uj (l (l (l (l (l (l (l (l hc))))))))];rw [uj (l (l (l (l (l (l (l (l (l hc)))))))))];rw [uj (l (l (l (l (l (l (l (l (l (l hc))))))))))];have d: ∀k:Nat,c/256^k/256=c/256^(k+1):=fun k=>by rw [Nat.div_div_eq_div_mul,←Nat.pow_succ]
 have e1:c/256=c/256^1:=by rw [Nat.pow_one]
 rw [e1,d,d,d,d,d,d,d,d,d,d];have hx: ∀(i:Nat) (m:Nat),ak .ay .u8 ((S i:Nat):Int) (ae .u8 (ak .rem .u64 (m:Int) 256))=((S i^^^(m%256):Nat):Int):=fun i m=>by
  rw [T_,bP (hS i) (afI _ (by decide))]
 rw [hx,hx,hx,hx,hx,hx,hx,hx,hx,hx,hx,hx];unfold aJ
 match j,hj with
 | 0,_=>rfl
 | 1,_=>rfl
 | 2,_=>rfl
 | 3,_=>rfl
 | 4,_=>rfl
 | 5,_=>rfl
 | 6,_=>rfl
 | 7,_=>rfl
 | 8,_=>rfl
 | 9,_=>rfl
 | 10,_=>rfl
 | 11,_=>simp [aq]
 | j+12,h=>exact absurd h (by omega)
theorem vq{B:List HP}{x:Value}(hx:x.oneCell'=true)(S:Nat→Nat)(hS: ∀j,S j<256)(c:Nat)(hc:c<2^64)(h:au B (aB x 12 S)):aw ae0 71 [x,.int .u64 (c:Int)] B fun r hs=> ∃o:V1,r=o.v∧hs=B++[aj true o 12 (aJ S c)]:=by
 refine bJ (L:=[aB x 12 S]) ?_ (pK h);refine Je _ (c:Int) (fun j=>(S j:Nat)) ⟨x,hx⟩ ?_;unfold zS;intro v1 v2;refine⟨v2,rfl,?_⟩;unfold aj;dsimp only [bo,bi,bn];rw [aW fun j hj=>NQ S hS hc j hj]
def lD(s j:Nat):Nat:=if j=0 then uD s else if j=1 then gj s else if j=2 then Dc s else if j=3 then aY s else Pv s
theorem bX.NR{b:Nat}{B:Nat→Int}{n:Nat}(hn:n≤140737488355328)(cs:List Value)(mj:cs=al .i64 n B):bX [ax b true cs] [aE true 3 1 (.slice (some ⟨b,0,none⟩) n n) n (aQ n [aO .i64 1 B])]:=by
 subst mj;rintro w Fs ⟨S,hS⟩;have h0:=(hS.at_ 0 _ rfl).1;have cM:=sC (t:=3) h0 (by rw [aG];unfold maxLen;omega);rw [aG]at cM;refine bK.weaken (a:=[ax b true (al .i64 n B)]) hS 0 _ _ rfl (fun _=>rfl) (fun k=>k=b) (fun k hk=>?_) ⟨?_,fun k=>?_⟩
 ·exact(h0.1 k).2 hk
 ·simp only [if_true];rw [je];exact cM
 ·simp [Value.ownBlock,eq_comm]
open Classical in
theorem KB(s:Nat):aw ae0 35 [.int .u16 (s:Int)] [] fun r hs=> ∃o:V1,r=o.v∧hs=[aE true 3 1 o.v (if isS s then 5 else 0) (aQ (if isS s then 5 else 0) [aO .i64 1 fun j=>(lD s j:Nat)])]:=by
 refine aw.post (p:=fun r hs=>(isS s∧∃b:Nat,r= .slice (some ⟨b,0,none⟩) 5 5∧hs=[ax b true (al .i64 5 fun j=>(lD s j:Nat))])∨(¬isS s∧r= .slice none 0 0)) ?_ ?_;rotate_left
 ·rintro r hs (⟨h,b,rfl,rfl⟩ | ⟨h,rfl⟩)
  ·rw [if_pos h];exact⟨_,bX.NR (by decide) _ rfl,⟨.slice (some ⟨b,0,none⟩) 5 5,rfl⟩,rfl,rfl⟩
  ·rw [if_neg h];exact⟨_,bX.trans (bX.sub (List.nil_sublist _)) (jG (t:=3)),⟨.slice none 0 0,rfl⟩,rfl,rfl⟩
 refine O6 _ (s:Int) ?_;unfold Hw;refine⟨fun h b=> .inl ?_,fun h1=>⟨fun h b=> .inl ?_,fun h2=>⟨fun h b=> .inl ?_,fun h3=>⟨fun h b=> .inl ?_,fun h4=>⟨fun h b=> .inl ?_,fun h5=> .inr ⟨?_,rfl⟩⟩⟩⟩⟩⟩
 ·have:s=1:=by omega
  subst this;exact⟨.inl rfl,b,rfl,rfl⟩
 ·have:s=2:=by omega
  subst this;exact⟨.inr (.inl rfl),b,rfl,rfl⟩
 ·have:s=3:=by omega
  subst this;exact⟨.inr (.inr (.inl rfl)),b,rfl,rfl⟩
 ·have:s=4:=by omega
  subst this;exact⟨.inr (.inr (.inr (.inl rfl))),b,rfl,rfl⟩
 ·have:s=5:=by omega
  subst this;exact⟨.inr (.inr (.inr (.inr rfl))),b,rfl,rfl⟩
 ·unfold isS;omega
def WQ(s:Nat)(r:Value)(nw:List HP):Prop:= ∃(o:V1) (n:Nat),r=o.v∧nw=[aE true 3 1 o.v n (aQ n [aO .i64 1 fun j=>(lD s j:Nat)])]∧((isS s∧n=5)∨(¬isS s∧n=0))
theorem qi{B:List HP}(s:Nat):aw ae0 35 [.int .u16 (s:Int)] B fun r hs=> ∃nw,WQ s r nw∧hs=B++nw:=by
 refine aw.fp (A:=[]) (L:=[]) (Q:=WQ s) ?_ (by simp) ?_ (by simp)
 ·refine aw.post (KB s) ?_;rintro r hs ⟨o,rfl,rfl⟩;refine⟨_,bX.refl _,_,⟨o,_,rfl,rfl,?_⟩,rfl⟩;by_cases h:isS s
  ·exact .inl ⟨h,by rw [if_pos h]⟩
  ·exact .inr ⟨h,by rw [if_neg h]⟩
 ·rintro v nw ⟨o,n,_,rfl,_⟩ h hh;simp only [afd,ae9,or_false]at hh;subst hh;rfl
theorem GL(b:Nat)(v0 v1:V1)(n0 n1:Nat)(T0 T1:Nat→Nat)(hl:n0+n1≤140737488355328):
  aw ae0 32 [.slice (some ⟨b,0,none⟩) 2 2] [ax b true [v0.v,v1.v],aj false v0 n0 T0,aj false v1 n1 T1] fun r hs=> ∃o:V1,r=o.v∧hs=[ax b true [v0.v,v1.v],aj true o (n0+n1) (cl n0 T0 T1)]:=by
 refine O7 _ (n0:Int) (n1:Int) (fun j=>(T0 j:Nat)) (fun j=>(T1 j:Nat)) v0 v1 b ?_;unfold Hx;refine⟨by omega,fun _=>⟨by omega,fun _=>⟨by omega,fun _ v2=>⟨by omega,fun _=>⟨by omega,fun _=>⟨by omega,fun _ v3=>⟨v3,rfl,?_⟩⟩⟩⟩⟩⟩⟩;show [_,aE true 5 1 v3.v _ _]=_;unfold aj;rw [show ag ((n0:Int)+(n1:Int))=n0+n1 by omega,afe,afe];congr 3;refine aW fun j hj=>?_
 unfold aI cl;by_cases c:j<n0
 ·rw [if_neg (by omega),if_pos c]
 ·rw [if_pos (by omega),if_neg c]
theorem rI{B:List HP}(b:Nat){x0 x1:Value}(h0:x0.oneCell'=true)(h1:x1.oneCell'=true)(n0 n1:Nat)(T0 T1:Nat→Nat)(hl:n0+n1≤140737488355328)(g0:au B (aB x0 n0 T0))(g1:au B (aB x1 n1 T1)):
  aw ae0 32 [.slice (some ⟨b,0,none⟩) 2 2] ([ax b true [x0,x1]]++B) fun r hs=> ∃o:V1,r=o.v∧hs=[ax b true [x0,x1]]++B++[aj true o (n0+n1) (cl n0 T0 T1)]:=by
 have hm:aw ae0 32 [.slice (some ⟨b,0,none⟩) 2 2] ([ax b true [x0,x1]]++[aB x0 n0 T0,aB x1 n1 T1]) fun r hs=> ∃nw,(∃o:V1,r=o.v∧nw=[aj true o (n0+n1) (cl n0 T0 T1)])∧hs=[ax b true [x0,x1]]++nw:=by
  refine aw.post (GL b ⟨x0,h0⟩ ⟨x1,h1⟩ n0 n1 T0 T1 hl) ?_;rintro r hs ⟨o,hr,rfl⟩;exact⟨_,bX.refl _,_,⟨o,hr,rfl⟩,rfl⟩
 refine aw.post (aw.fp hm ?_ ?_ (EG g0 g1)) ?_
 ·intro h hh;simp only [afd,ae9,or_false]at hh;subst hh;rfl
 ·rintro v nw ⟨o,_,rfl⟩ h hh;simp only [afd,ae9,or_false]at hh;subst hh;rfl
 ·rintro r hs ⟨nw,⟨o,hr,rfl⟩,rfl⟩;exact⟨_,bX.refl _,o,hr,rfl⟩
theorem kL{n m:Nat}{F G:Nat→Int}{f g:Nat→Nat}(hF: ∀j,j<n→F j=(f j:Nat))(hG: ∀j,j<m→G j=(g j:Nat)): ∀j,j<n+m→aI F n m G j=(cl n f g j:Nat):=by
 intro j hj;unfold aI cl;by_cases c:j<n
 ·rw [if_neg (by omega),if_pos c,hF j c]
 ·rw [if_pos (by omega),if_neg c,hG _ (by omega)]
theorem oh(n m:Nat)(A B C:Nat→Nat):cl (n+m) (cl n A B) C=cl n A (cl m B C):=by
 funext j;unfold cl;by_cases c:j<n
 ·rw [if_pos (by omega),if_pos c,if_pos c]
 ·by_cases c2:j<n+m
  ·rw [if_pos c2,if_neg c,if_neg c,if_pos (by omega)]
  ·rw [if_neg c2,if_neg c,if_neg (by omega),show j - (n+m)=j - n - m by omega]
set_option maxHeartbeats 1000000 in
theorem GM(b:Nat)(v0 v1 v2 v3 v4 v5:V1)(n0 n1 n2 n3 n4 n5:Nat)(T0 T1 T2 T3 T4 T5:Nat→Nat)(hl:n0+n1+n2+n3+n4+n5≤140737488355328):
  aw ae0 32 [.slice (some ⟨b,0,none⟩) 6 6] [ax b true [v0.v,v1.v,v2.v,v3.v,v4.v,v5.v],aj false v0 n0 T0,aj false v1 n1 T1,aj false v2 n2 T2,aj false v3 n3 T3,aj false v4 n4 T4,aj false v5 n5 T5] fun r hs=> ∃o:V1,r=o.v∧hs=[ax b true [v0.v,v1.v,v2.v,v3.v,v4.v,v5.v],aj true o (n0+n1+n2+n3+n4+n5) (cl (n0+n1+n2+n3+n4) (cl (n0+n1+n2+n3) (cl (n0+n1+n2) (cl (n0+n1) (cl (n0) T0 T1) T2) T3) T4) T5)]:=by
 refine O8 _ (n0:Int) (n1:Int) (n2:Int) (n3:Int) (n4:Int) (n5:Int) (fun j=>(T0 j:Nat)) (fun j=>(T1 j:Nat)) (fun j=>(T2 j:Nat)) (fun j=>(T3 j:Nat)) (fun j=>(T4 j:Nat)) (fun j=>(T5 j:Nat)) v0 v1 v2 v3 v4 v5 b ?_;unfold Hy;refine⟨by omega,fun _=>⟨by omega,fun _=>⟨by omega,fun _ _=>⟨by omega,fun _=>⟨by omega,fun _=>⟨by omega,fun _ _=>⟨by omega,fun _=>⟨by omega,fun _=>⟨by omega,fun _=>⟨by omega,fun _ _=>⟨by omega,fun _=>⟨by omega,fun _=>⟨by omega,fun _=>⟨by omega,fun _ _=>⟨by omega,fun _=>⟨by omega,fun _=>⟨by omega,fun _=>⟨by omega,fun _ _=>⟨by omega,fun _=>⟨by omega,fun _=>⟨by omega,fun _=>⟨by omega,fun _ o=>⟨o,rfl,?_⟩⟩⟩⟩⟩⟩⟩⟩⟩⟩⟩⟩⟩⟩⟩⟩⟩⟩⟩⟩⟩⟩⟩;show [_,aE true 5 1 o.v _ _]=_;unfold aj;rw [show ag ((n0:Int)+(n1:Int)+(n2:Int)+(n3:Int)+(n4:Int)+(n5:Int))=n0+n1+n2+n3+n4+n5 by omega];rw [show ag ((n0:Int)+(n1:Int)+(n2:Int)+(n3:Int)+(n4:Int))=n0+n1+n2+n3+n4 by omega];rw [show ag ((n0:Int)+(n1:Int)+(n2:Int)+(n3:Int))=n0+n1+n2+n3 by omega];rw [show ag ((n0:Int)+(n1:Int)+(n2:Int))=n0+n1+n2 by omega];rw [show ag ((n0:Int)+(n1:Int))=n0+n1 by omega];simp only [afe];congr 3;exact aW (kL (kL (kL (kL (kL (fun _ _=>rfl) fun _ _=>rfl) fun _ _=>rfl) fun _ _=>rfl) fun _ _=>rfl) fun _ _=>rfl)
theorem GN{B:List HP}(b:Nat){x0 x1 x2 x3 x4 x5:Value}(h0:x0.oneCell'=true)(h1:x1.oneCell'=true)(h2:x2.oneCell'=true)(h3:x3.oneCell'=true)(h4:x4.oneCell'=true)(h5:x5.oneCell'=true)(n0 n1 n2 n3 n4 n5:Nat)(T0 T1 T2 T3 T4 T5:Nat→Nat)(hl:n0+n1+n2+n3+n4+n5≤140737488355328)(g0:au B (aB x0 n0 T0))(g1:au B (aB x1 n1 T1))(g2:au B (aB x2 n2 T2))(g3:au B (aB x3 n3 T3))(g4:au B (aB x4 n4 T4))(g5:au B (aB x5 n5 T5)):
  aw ae0 32 [.slice (some ⟨b,0,none⟩) 6 6] ([ax b true [x0,x1,x2,x3,x4,x5]]++B) fun r hs=> ∃o:V1,r=o.v∧hs=[ax b true [x0,x1,x2,x3,x4,x5]]++B++[aj true o (n0+n1+n2+n3+n4+n5) (cl (n0+n1+n2+n3+n4) (cl (n0+n1+n2+n3) (cl (n0+n1+n2) (cl (n0+n1) (cl (n0) T0 T1) T2) T3) T4) T5)]:=by
 have hm:aw ae0 32 [.slice (some ⟨b,0,none⟩) 6 6] ([ax b true [x0,x1,x2,x3,x4,x5]]++[aB x0 n0 T0,aB x1 n1 T1,aB x2 n2 T2,aB x3 n3 T3,aB x4 n4 T4,aB x5 n5 T5]) fun r hs=> ∃nw,(∃o:V1,r=o.v∧nw=[aj true o (n0+n1+n2+n3+n4+n5) (cl (n0+n1+n2+n3+n4) (cl (n0+n1+n2+n3) (cl (n0+n1+n2) (cl (n0+n1) (cl (n0) T0 T1) T2) T3) T4) T5)])∧hs=[ax b true [x0,x1,x2,x3,x4,x5]]++nw:=by
  refine aw.post (GM b ⟨x0,h0⟩ ⟨x1,h1⟩ ⟨x2,h2⟩ ⟨x3,h3⟩ ⟨x4,h4⟩ ⟨x5,h5⟩ n0 n1 n2 n3 n4 n5 T0 T1 T2 T3 T4 T5 hl) ?_;rintro r hs ⟨o,hr,rfl⟩;exact⟨_,bX.refl _,_,⟨o,hr,rfl⟩,rfl⟩
 refine aw.post (aw.fp hm ?_ ?_ ?_) ?_
 ·intro h hh;simp only [afd,ae9,or_false]at hh;subst hh;rfl
 ·rintro v nw ⟨o,_,rfl⟩ h hh;simp only [afd,ae9,or_false]at hh;subst hh;rfl
 ·intro h hh;simp only [afd,ae9,or_false]at hh;rcases hh with rfl | rfl | rfl | rfl | rfl | rfl
  ·exact g0
  ·exact g1
  ·exact g2
  ·exact g3
  ·exact g4
  ·exact g5
 ·rintro r hs ⟨nw,⟨o,hr,rfl⟩,rfl⟩;exact⟨_,bX.refl _,o,hr,rfl⟩
end Go.RX.Fl
