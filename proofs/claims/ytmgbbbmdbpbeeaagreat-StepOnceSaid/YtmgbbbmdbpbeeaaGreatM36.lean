/- The law of senders and receivers. -/
import Derived.Test.YtmgbbbmdbpbeeaaGreatM35
import Derived.OpenShut
import Derived.ProofKit
open Bool renaming and_eq_true → ai
open Classical renaming axiomOfChoice → ajH
open Go.Proofs.Tryz renaming prog → aiT
open Int renaming toNat → ag, toNat_natCast → aiX
open List renaming getD_cons_succ → aiS, getD_cons_zero → ah, getElem?_append_left → aiR, getElem?_append_right → aiW, getElem?_eq_getElem → ajk, getElem?_eq_none → ajz, getElem?_eq_some_iff → aiN, map_cons → ajb, mem_append → ajt, mem_cons → ai0, mem_map → ai_, mem_of_getElem? → ajn, not_mem_nil → aiZ, range → ajw
open List.cons renaming injEq → ai5
open Option.some renaming injEq → aiP
namespace Go.RX.Fy
open Go Go.RX Go.Proofs Go.RX.Sh Go.RX.Fg Go.RX.Fh Go.RX.Fi Go.RX.Fj Go.RX.Fk Go.Hd Go.Gh Go.Gc Go.Ae Go.RX.Fe Go.Se Go.RX.Fq Go.RX.Fw Go.Wn Go.RX.Fx
structure Dz where
 n:Nat
 K:Nat→Int
 E2:Nat→Int
 E3:Nat→Int
 C:Nat→Int
 N:Nat→Int
 nm:Nat→Nat
 nb:Nat→Nat
 XM:Nat→Nat→Nat
 XB:Nat→Nat→Nat
structure Mg (p0:HP) (D:Dz):Prop where
 w:p0.wr=false
 n:D.n≤140737488355328
 m: ∀i,i<D.n→D.nm i≤140737488355328∧ar [p0] (aH (bQ (D.E2 i)) (D.nm i) (D.XM i))
 b: ∀i,i<D.n→D.nb i≤140737488355328∧ar [p0] (aH (bQ (D.E3 i)) (D.nb i) (D.XB i))∧∀j,D.XB i j<256
 c: ∀i,i<D.n→0≤D.C i∧D.C i<18446744073709551616
abbrev Ir(v:V1)(D:Dz):HP:=aG false 59 5 v.v D.n (aW D.n [bd .u8 1 D.K,cJ 1 (fun j=>bQ (D.E2 j)),cJ 1 (fun j=>bQ (D.E3 j)),bd .u64 1 D.C,bd .i64 1 D.N])
theorem ZK{L:List HP}(h: ∀x∈L,x.wr=false): ∀x∈L,ar L x:=by
 intro x hx;obtain⟨l1,l2,rfl⟩:=List.append_of_mem hx;have:=ar.mid (A:=l1) (B:=[x]) (C:=l2) (ar.self (h x hx));simpa using this
theorem Gp(v0 v1:V1)(n:Nat)(T:Nat→Int){D:Dz}{p0:HP}(hD:Mg p0 D):
  ax aiT 13 [v0.v,v1.v] [bn false v0 n T,Ir v1 D,p0] fun r hs=>(∃q:Bool,r= .bool q∧(q=false→D.n≤187∧∀i,i<D.n→D.nb i≤3000))∧hs=[bn false v0 n T,Ir v1 D,p0]:=by
 refine kF (L:=[bn false v0 n T,Ir v1 D,p0]) ?_ (ZK ?_);rotate_left
 ·intro x hx;simp only [ai0,aiZ,or_false]at hx;rcases hx with rfl | rfl | rfl
  ·rfl
  ·rfl
  ·exact hD.w
 refine ax.post (p:=fun r _=> ∃q:Bool,r= .bool q∧(q=false→D.n≤187∧∀i,i<D.n→D.nb i≤3000)) ?_ fun v hs h=>⟨[],bL.sub (List.nil_sublist _),h,rfl⟩
 refine PI _ (n:Int) (D.n:Int) T D.K D.E2 D.E3 D.C D.N v0 v1 p0 ?_;unfold Gj;refine⟨by omega,fun _=>?_⟩;refine⟨fun e=> ∃(k x:Nat),k≤D.n∧e.i=[(k:Int),(x:Int)]∧16*k≤x∧x≤3000∧∀i,i<k→D.nb i≤3000,fun e=>((D.n:Int) - e.i.getD 0 0).toNat,⟨_,_,rfl,rfl,0,0,by omega,rfl,by omega,by omega,fun i hi=>absurd hi (by omega)⟩,?_⟩;rintro y1 y2 ⟨k,x,hk,hx,h16,h3,hb⟩;simp only [ai5,and_true]at hx;obtain⟨rfl,rfl⟩:=hx;refine⟨fun bX=>⟨by omega,fun _ b0=>?_⟩,fun jI=>⟨by omega,fun _=>⟨_,rfl,fun _=>⟨by omega,fun i hi=>hb i (by omega)⟩⟩⟩⟩;have r9:k<D.n:=by omega
 rw [aiX];obtain⟨m1,m2⟩:=hD.m k r9;obtain⟨b1,b2,_⟩:=hD.b k r9;refine⟨fun e=>e.i=[(D.nm k:Int),(D.nb k:Int)],fun w Fs ho=>?_,?_⟩
 ·refine⟨⟨bQ (D.E2 k),dV _⟩,⟨bQ (D.E3 k),dV _⟩,(D.nm k:Int),(D.nb k:Int),fun j=>(D.XM k j:Nat),fun j=>(D.XB k j:Nat),?_,rfl⟩;exact bL.views (A:=[_]) (B:=[p0]) (L:=[p0,_,_]) (OM (ar.self hD.w) m2 b2) w Fs ho
 rintro v2 v3 x4 x5 A6 A7 he;simp only [ai5,and_true]at he;obtain⟨rfl,rfl⟩:=he
 iterate 8 refine⟨by omega,fun _=>?_⟩
 refine⟨fun _=>⟨true,rfl,fun h=>(nomatch h)⟩,fun aeP=>?_⟩;refine⟨by omega,fun _=>⟨by omega,fun _=>?_⟩⟩;refine⟨_,_,rfl,rfl,⟨k+1,x+(16+D.nb k+D.nm k),by omega,?_,by omega,by omega,fun i hi=>?_⟩,?_⟩
 ·simp only [ai5,and_true];omega
 ·by_cases h:i<k
  ·exact hb i h
  ·have:i=k:=by omega
   subst this;omega
 ·simp only [ah];omega
variable {s n p bits:Nat} {T:Nat→Int}
theorem Wk(h:Ln s n p bits){g:Nat}(hg:g<2^bits)(b:Nat)(v:V1)(e:Int)(c nt:Nat)(hc:c<2^64)(tx:nt≤65536)(X:Nat→Nat)(hX: ∀j,X j<256){p0:HP}(hb:ar [p0] (aH (bQ e) nt X))(L:List Fr):
  ax aiT 18 [.pointer (some ⟨b,0,none⟩),.slice none 0 0,bQ e] [dj s p bits b g v c false,bb s n T g v,p0,jQ s n p bits T L] fun r hs=> ∃z:Int,r= .tuple #[bQ z,.int .i64 0]∧hs=[dj s p bits b g v ((c+1)%2^64) (decide (c+1=2^64)),bb s n T g v,p0,jQ s n p bits T (L++[⟨g,c,nt,X,z⟩])]:=by
 have h1:=ax.know (F9 (T:=T) (B:=[p0,jQ s n p bits T L]) h hg b v (dV e) c nt hc tx X hX (ar.left (C:=[jQ s n p bits T L]) hb))
  (Q:=fun r hs=> ∃(z:Int) (o:V1),o.v=bQ z∧r= .tuple #[o.v,.int .i64 0]∧hs=dj s p bits b g v ((c+1)%2^64) (decide (c+1=2^64))::bb s n T g v::([p0,jQ s n p bits T L]++[aq true o (FL s p bits g c nt) (FB s n p bits T g c nt X)])) (by
   rintro r hs ⟨o,rfl,rfl⟩ w Fs ho;obtain⟨z,hz⟩:=NK (bL.JE (a:=dj s p bits b g v ((c+1)%2^64) (decide (c+1=2^64))::bb s n T g v::([p0,jQ s n p bits T L]++[aq true o (FL s p bits g c nt) (FB s n p bits T g c nt X)])) 4 rfl w Fs ho);exact⟨z,o,hz,rfl,rfl⟩)
 refine ax.post h1 ?_;rintro r hs ⟨_,z,o,hz,rfl,rfl⟩;refine⟨_,bL.views (A:=[dj s p bits b g v ((c+1)%2^64) (decide (c+1=2^64)),bb s n T g v,p0]) (B:=[jQ s n p bits T L,aq true o (FL s p bits g c nt) (FB s n p bits T g c nt X)]) (L:=[jQ s n p bits T (L++[⟨g,c,nt,X,z⟩])]) (iB (mN fun x hx=>?_)),z,by rw [hz],rfl⟩;rw [List.map_append]at hx;rcases ajt.1 hx with hx | hx
 ·refine ar.left (B:=[jQ s n p bits T L]) (zh hx ?_);obtain⟨f,_,rfl⟩:=ai_.1 hx;rfl
 ·simp only [ajb,List.map_nil,ai0,aiZ,or_false]at hx;subst hx;unfold Zc;rw [←hz];exact ar.right (A:=[jQ s n p bits T L]) ar.bytes
theorem PN{L:List Fr}{f:Fr}(hf:f∈L):ar [jQ s n p bits T L] (aH (bQ f.e) (FL s p bits f.g f.c f.nt) (FB s n p bits T f.g f.c f.nt f.X)):=
 zh (ai_.2 ⟨f,hf,rfl⟩) rfl
theorem Wl(h:Ln s n p bits){L:List Fr}{f:Fr}(hf:f∈L)(hg:f.g<2^bits)(hc:f.c<2^64)(hX: ∀j,f.X j<256):
  ax aiT 24 [bQ f.e] [jQ s n p bits T L] fun r hs=>(∃z:Int,r= .tuple #[.agg #[.int .u64 (eg p bits f.g:Nat),.int .u64 (f.c:Int)],.int .i64 z])∧hs=[jQ s n p bits T L]:=by
 refine ax.post (kF (Fl.oO ⟨bQ f.e,dV _⟩ (FL s p bits f.g f.c f.nt) (FB s n p bits T f.g f.c f.nt f.X) (Py hX f.g f.c f.nt)) (iB (PN hf))) ?_;rintro r hs ⟨⟨a,d,z,rfl,hq⟩,rfl⟩;obtain⟨Lq,BC,TA,Ll⟩:=lF (s:=s) (K:=gK s n p bits T f.g) (S:=gS s n p bits T f.g) (na:=0) (A:=fun _=>0) (nt:=f.nt) (T:=f.X) (h.aY hg) hc;rcases hq with⟨_,rfl,rfl,rfl⟩ | ⟨hn,_⟩
 ·refine⟨_,bL.refl _,⟨(hlen (FB s n p bits T f.g f.c f.nt f.X):Nat),?_⟩,rfl⟩;rw [show bV (FB s n p bits T f.g f.c f.nt f.X)=eg p bits f.g from Lq,show aZ (FB s n p bits T f.g f.c f.nt f.X)=f.c from BC]
 ·exact absurd (Ll _ (by unfold FL;omega)) hn
theorem k2c(a b:Int):ag ((bG ((ajw 2).map (au (au (fun _=>0) 0 a) 1 b)):Nat):Int)=bG [a,b]:=by rw [aiX];rfl
theorem k1c(a:Int):ag ((bG ((ajw 1).map (fun _=>a)):Nat):Int)=bG [a]:=by rw [aiX];rfl
def a0(e:Ext)(k:Nat):Nat→Int:=e.a.getD k fun _=>0
def Inv1(s n bits:Nat)(T:Nat→Int)(p0:HP)(D:Dz)(e:Ext):Prop:= ∃(k:Nat) (L:List Fr) (g c:Nat) (sp:Bool),k≤D.n∧L.length≤k∧ri bits L g c sp∧Told 1 bits L (a0 e 1) (a0 e 2)∧e.i=[(k:Int),(g:Int),(c:Int),(gN s n g:Int),(L.length:Int)]∧e.bo=[sp]∧e.p=[jQ s n 1 bits T L]∧
 (∀j,j<gN s n g→a0 e 0 j=gT s n T g j)∧(∀(i:Nat) (f:Fr),L[i]? =some f→a0 e 3 i=f.e)∧∀(i:Nat) (f:Fr),L[i]? =some f→ar [p0] (aH (bQ (a0 e 4 i)) f.nt f.X)
def Inv2(s n bits:Nat)(T:Nat→Int)(L:List Fr)(m:Nat)(e:Ext):Prop:= ∃(R:Rc) (k:Nat) (O:Nat→Prop),k≤m∧R.Ok s n 1 bits T∧PC L O R∧e.i.drop 3=[(R.g0:Int),(R.w0.top:Int),R.s1,R.p1,R.b1,(R.g1:Int),(R.w1.top:Int),(gN s n R.g0:Int),(R.n1:Int),(k:Int)]∧e.bo=[R.w0.so,R.w1.so,R.two]∧
 (∀j,j<16→a0 e 0 j=cR R.w0.W j)∧(∀j,j<16→a0 e 1 j=cR R.w1.W j)∧(∀j,j<gN s n R.g0→a0 e 2 j=gT s n T R.g0 j)∧(∀j,j<R.n1→a0 e 3 j=R.T1 j)∧∀i,i<L.length→(a0 e 4 (bG [(i:Int)])≠0↔O i)
theorem J3{v:V1}{g:Nat}{A:Nat→Int}(hA: ∀j,j<gN s n g→A j=gT s n T g j):bi v (gN s n g:Int) A=bb s n T g v:=by
 show aG false 5 1 v.v (gN s n g) (aW (gN s n g) [bd .u8 1 A])=_;show _=aG false 5 1 v.v _ _;rw [bJ hA]
theorem SX{v:V1}{k:Nat}{A B:Nat→Int}(hA: ∀j,j<k→A j=B j):bi v (k:Int) A=bn false v k B:=by
 show aG false 5 1 v.v k (aW k [bd .u8 1 A])=_;show _=aG false 5 1 v.v _ _;rw [bJ hA]
set_option maxHeartbeats 4000000 in
set_option maxRecDepth 100000 in
theorem Wm(hl:Ln s n 1 bits)(v0 v1 v2:V1)(D:Dz)(m:Nat)(A6:Nat→Int){p0:HP}(hD:Mg p0 D)(hm:m≤140737488355328)(hA6: ∀j,j<m→0≤A6 j∧A6 j≤65535):
  ax aiT 5 [.int .u16 (s:Int),v0.v,.int .i64 (bits:Int),v1.v,v2.v] [p0,bn false v0 n T,Ir v1 D,aG false 3 1 v2.v m (aW m [bd .u16 1 A6]),flock []] fun r _=>r= .bool true:=by
 refine Wg _ (s:Int) (bits:Int) (n:Int) (D.n:Int) (m:Int) T D.K D.E2 D.E3 D.C D.N A6 v0 v1 v2 p0 (flock []) ?_;unfold PE;refine⟨_,Fz.qo,?_⟩;rintro x hs ⟨rfl,rfl⟩;refine⟨rfl,rfl,?_⟩;refine⟨_,xp (B:=[bn false v0 n T]) s n 1 bits T v0 (ar.dD 0 rfl),?_⟩;rintro x hs (⟨hn,_⟩ | ⟨jE,b0,v3,Wy,_,rfl,rfl⟩)
 ·exact absurd ⟨bits,rfl,hl⟩ hn
 obtain rfl:jE=bits:=by omega
 refine⟨b0,v3,(s:Nat),(1:Nat),(jE:Nat),(0:Nat),(0:Nat),(gN s n 0:Nat),gT s n T 0,false,rfl,rfl,?_⟩;refine⟨_,xq (B:=[bn false v0 n T]) s n 1 jE T v0 (ar.dD 0 rfl),?_⟩;rintro x hs (⟨hn,_⟩ | ⟨bits,b1,v4,ZD,_,rfl,rfl⟩)
 ·exact absurd ⟨_,rfl,hl⟩ hn
 obtain rfl:jE=bits:=by omega
 clear Wy ZD;refine⟨b1,v4,eQ,(s:Nat),(1:Nat),(jE:Nat),(Rc.new.g0:Nat),(Rc.new.w0.top:Nat),Rc.new.s1,Rc.new.p1,Rc.new.b1,(Rc.new.g1:Nat),(Rc.new.w1.top:Nat),(gN s n Rc.new.g0:Nat),(Rc.new.n1:Nat),cR Rc.new.w0.W,cR Rc.new.w1.W,gT s n T Rc.new.g0,Rc.new.T1,Rc.new.w0.so,Rc.new.w1.so,Rc.new.two,rfl,rfl,?_⟩;refine⟨_,Gp v0 v1 n T hD,?_⟩;rintro x hs ⟨⟨q4,rfl,hq⟩,rfl⟩;refine⟨q4,rfl,rfl,.inr (by omega),fun _=>⟨fun _=>rfl,fun hq4 b2=>⟨by omega,fun _=>?_⟩⟩⟩;obtain⟨ahS,hb3⟩:=hq (by
  cases q4 with
  | true=>exact absurd (.inl rfl) hq4
  | false=>rfl)
 clear hq hq4;refine⟨Inv1 s n jE T p0 D,fun e=>((D.n:Int) - e.i.getD 0 0).toNat,?_,?_⟩
 ·refine⟨v3,eQ,eQ,0,_,_,_,0,gT s n T 0,fun _=>0,fun _=>0,fun _=>0,fun _=>0,_,_,rfl,rfl,rfl,rfl,rfl,rfl,rfl,rfl,rfl,rfl,fun _ _=>rfl,rfl,rfl,rfl,rfl,fun _ _=>rfl,rfl,rfl,fun _ _=>rfl,?_⟩;exact⟨0,[],0,0,false,by omega,Nat.le_refl _,ri.nil _,Told.nil _ _,rfl,rfl,rfl,fun _ _=>rfl,fun _ _ h=>(nomatch h),fun _ _ h=>(nomatch h)⟩
 rintro v8 v9 v10 kJ pd qu pk fl m9 qt uc rJ m5 q5 p2 ⟨k,L,g,c,sp,hk,hLk,hS,hT,hi,Ak,hp,hA,hE,hX⟩;simp only [ai5,and_true]at hi Ak hp;obtain⟨rfl,rfl,rfl,rfl,rfl⟩:=hi;have Ak:=Ak.symm;subst Ak hp
 change Told 1 jE L qt uc at hT
 change∀j,j<gN s n g→m9 j=gT s n T g j at hA
 change∀(i:Nat) (f:Fr),L[i]? =some f→rJ i=f.e at hE
 change∀(i:Nat) (f:Fr),L[i]? =some f→ar [p0] (aH (bQ (m5 i)) f.nt f.X)at hX
 have hp2:=hl.pow;have eA:=J3 (v:=v8) hA;refine⟨fun bX=>⟨by omega,fun _ b3=>?_⟩,fun jI b3=>⟨by omega,fun _=>?_⟩⟩
 ·have r9:k<D.n:=by omega
  rw [aiX,eA];refine⟨fun _=>?_,fun _=>⟨fun _=>?_,fun _=>⟨fun _=>?_,fun _=>?_⟩⟩⟩
  ·obtain⟨b1',b2',b3'⟩:=hD.b k r9;have DY:=hb3 k r9;cases sp with
   | true=>
    refine⟨_,F_ (B:=[p0,jQ s n 1 jE T L]) b0 g v8 (dV (D.E3 k)) c (D.nb k) (D.XB k) (ar.left (C:=[jQ s n 1 jE T L]) b2'),?_⟩;rintro x hs ⟨rfl,rfl⟩;refine⟨0,150,c,true,_,rfl,rfl,fun _=>⟨by omega,fun _=>⟨by omega,fun _=>?_⟩⟩,fun h=>absurd (by decide) h⟩;refine⟨v8,v9,v10,_,_,_,_,_,m9,_,_,rJ,m5,_,_,rfl,rfl,rfl,rfl,rfl,rfl,rfl,rfl,rfl,rfl,fun _ _=>rfl,rfl,rfl,rfl,rfl,fun _ _=>rfl,rfl,rfl,fun _ _=>rfl,?_,?_⟩
    ·exact⟨k+1,L,g,c,true,by omega,by omega,hS,hT,by simp,rfl,rfl,hA,hE,hX⟩
    ·simp only [ah];omega
   | false=>
    refine⟨_,Wk (T:=T) hl hS.gb b0 v8 (D.E3 k) c (D.nb k) hS.cb (by omega) (D.XB k) b3' b2' L,?_⟩;rintro x hs ⟨z,rfl,rfl⟩;refine⟨z,0,((c+1)%2^64:Nat),decide (c+1=2^64),_,rfl,rfl,fun h=>absurd rfl h,fun _=>?_⟩;have UT:=hS.seal (show D.nb k≤65536 by omega) b3' z;obtain⟨Dj,Vw⟩:=hT.seal hS ⟨g,c,D.nb k,D.XB k,z⟩ ⟨rfl,rfl⟩;refine⟨_,Wl (s:=s) (n:=n) (T:=T) hl (L:=L++[⟨g,c,D.nb k,D.XB k,z⟩]) (f:=⟨g,c,D.nb k,D.XB k,z⟩) (by simp) hS.gb hS.cb b3',?_⟩;rintro x hs ⟨⟨z2,rfl⟩,rfl⟩;refine⟨_,_,_,rfl,rfl,fun _=>?_⟩;rw [k2c];have fin: ∀v11 m_:V1,Inv1 s n jE T p0 D ⟨[],[v8,v11,m_],[((k:Int)+1),(g:Int),(((c+1)%2^64:Nat):Int),(gN s n g:Int),((L.length:Int)+1)],[m9,au qt (bG [(eg 1 jE g:Int),(c:Int)]) 1,au uc (bG [(eg 1 jE g:Int),(c:Int)]) (L.length:Int),au rJ (ag (L.length:Int)) z,au m5 (ag (L.length:Int)) (D.E3 k)],[decide (c+1=2^64)],[jQ s n 1 jE T (L++[⟨g,c,D.nb k,D.XB k,z⟩])],[]⟩:=by
     intro v11 m_;refine⟨k+1,L++[⟨g,c,D.nb k,D.XB k,z⟩],g,(c+1)%2^64,decide (c+1=2^64),by omega,by simp;omega,UT,Vw,by simp,rfl,rfl,hA,fun i f hi=>?_,fun i f hi=>?_⟩
     ·show au rJ (ag (L.length:Int)) z i=f.e;rw [aiX];unfold au;rcases oP hi with hi | ⟨rfl,rfl⟩
      ·rw [if_neg (by have:=(aiN.1 hi).1;omega)];exact hE i f hi
      ·rw [if_pos rfl]
     ·show ar [p0] (aH (bQ (au m5 (ag (L.length:Int)) (D.E3 k) i)) f.nt f.X);rw [aiX];unfold au;rcases oP hi with hi | ⟨rfl,rfl⟩
      ·rw [if_neg (by have:=(aiN.1 hi).1;omega)];exact hX i f hi
      ·rw [if_pos rfl];exact b2'
    refine⟨fun h=>absurd h Dj,fun _=>⟨by omega,fun _=>⟨fun _=>⟨⟨by omega,fun _ v11 _ m_=>⟨by omega,fun _=>⟨by omega,fun _=>?_⟩⟩⟩,fun _=>⟨by omega,fun _ v11 m_=>⟨by omega,fun _=>⟨by omega,fun _=>?_⟩⟩⟩⟩,fun _ _=>⟨by omega,fun _ v11 m_=>⟨by omega,fun _=>⟨by omega,fun _=>?_⟩⟩⟩⟩⟩⟩
    all_goals
     refine⟨v8,v11,m_,_,_,_,_,_,m9,_,_,_,_,_,_,rfl,rfl,rfl,rfl,rfl,rfl,rfl,rfl,rfl,rfl,fun _ _=>rfl,rfl,rfl,rfl,rfl,fun _ _=>rfl,rfl,rfl,fun _ _=>rfl,fin v11 m_,?_⟩;simp only [ah];omega
  ·refine⟨_,C2 hl hS.gb b0 v8 c sp,?_⟩;rintro x hs (⟨_,rfl,rfl⟩ | ⟨hg1,o,rfl,rfl⟩)
   ·refine⟨v8,150,g,c,(gN s n g:Nat),gT s n T g,sp,rfl,rfl,by omega,fun _=>⟨by omega,fun _=>?_⟩⟩;refine⟨v8,v9,v10,_,_,_,_,_,gT s n T g,_,_,rJ,m5,_,_,rfl,rfl,rfl,rfl,rfl,rfl,rfl,rfl,rfl,rfl,fun _ _=>rfl,rfl,rfl,rfl,rfl,fun _ _=>rfl,rfl,rfl,fun _ _=>rfl,?_,?_⟩
    ·exact⟨k+1,L,g,c,sp,by omega,by omega,hS,hT,by simp,rfl,rfl,fun _ _=>rfl,hE,hX⟩
    ·simp only [ah];omega
   ·refine⟨o,0,(g+1:Nat),(0:Nat),(gN s n (g+1):Nat),gT s n T (g+1),false,rfl,rfl,by omega,fun _=>⟨by omega,fun _=>?_⟩⟩;refine⟨o,v9,v10,_,_,_,_,_,gT s n T (g+1),_,_,rJ,m5,_,_,rfl,rfl,rfl,rfl,rfl,rfl,rfl,rfl,rfl,rfl,fun _ _=>rfl,rfl,rfl,rfl,rfl,fun _ _=>rfl,rfl,rfl,fun _ _=>rfl,?_,?_⟩
    ·exact⟨k+1,L,g+1,0,false,by omega,by omega,hS.step hg1,hT,by simp,rfl,rfl,fun _ _=>rfl,hE,hX⟩
    ·simp only [ah];omega
  ·obtain⟨c1,c2⟩:=hD.c k r9;obtain⟨d,hd⟩: ∃d:Nat,D.C k=(d:Int):=⟨(D.C k).toNat,by omega⟩;rw [hd];refine⟨_,C3 (s:=s) (n:=n) (p:=1) (bits:=jE) (T:=T) b0 g v8 c sp d,?_⟩;rintro x hs ⟨er,rfl,(⟨_,_,rfl⟩ | ⟨_,_,hcd,rfl⟩)⟩
   ·refine⟨er,c,rfl,rfl,by omega,fun _=>⟨by omega,fun _=>?_⟩⟩;refine⟨v8,v9,v10,_,_,_,_,_,m9,_,_,rJ,m5,_,_,rfl,rfl,rfl,rfl,rfl,rfl,rfl,rfl,rfl,rfl,fun _ _=>rfl,rfl,rfl,rfl,rfl,fun _ _=>rfl,rfl,rfl,fun _ _=>rfl,?_,?_⟩
    ·exact⟨k+1,L,g,c,sp,by omega,by omega,hS,hT,by simp,rfl,rfl,hA,hE,hX⟩
    ·simp only [ah];omega
   ·refine⟨er,d,rfl,rfl,by omega,fun _=>⟨by omega,fun _=>?_⟩⟩;refine⟨v8,v9,v10,_,_,_,_,_,m9,_,_,rJ,m5,_,_,rfl,rfl,rfl,rfl,rfl,rfl,rfl,rfl,rfl,rfl,fun _ _=>rfl,rfl,rfl,rfl,rfl,fun _ _=>rfl,rfl,rfl,fun _ _=>rfl,?_,?_⟩
    ·exact⟨k+1,L,g,d,sp,by omega,by omega,hS.skip (by omega) hcd,hT,by simp,rfl,rfl,hA,hE,hX⟩
    ·simp only [ah];omega
  ·refine⟨by omega,fun _=>⟨by omega,fun _=>?_⟩⟩;refine⟨v8,v9,v10,_,_,_,_,_,m9,_,_,rJ,m5,_,_,rfl,rfl,rfl,rfl,rfl,rfl,rfl,rfl,rfl,rfl,fun _ _=>rfl,rfl,rfl,rfl,rfl,fun _ _=>rfl,rfl,rfl,fun _ _=>rfl,?_,?_⟩
   ·exact⟨k+1,L,g,c,sp,by omega,by omega,hS,hT,by simp,rfl,rfl,hA,hE,hX⟩
   ·simp only [ah];omega
 ·
  refine⟨Inv2 s n jE T L m,fun e=>((m:Int) - e.i.getD 12 0).toNat,?_,?_⟩
  ·refine⟨v4,eQ,0,0,0,_,_,_,_,_,_,_,_,_,0,cR Rc.new.w0.W,cR Rc.new.w1.W,gT s n T Rc.new.g0,Rc.new.T1,_,_,_,_,rfl,rfl,rfl,rfl,rfl,fun _ _=>rfl,rfl,rfl,rfl,rfl,rfl,rfl,rfl,fun _ _=>rfl,rfl,rfl,rfl,fun _ _=>rfl,rfl,rfl,fun _ _=>rfl,rfl,?_⟩;exact⟨Rc.new,0,fun _=>False,by omega,Rc.Ih _ _ _ _ _,PC.new L,rfl,rfl,fun _ _=>rfl,fun _ _=>rfl,fun _ _=>rfl,fun _ _=>rfl,fun _ _=>⟨fun h=>absurd rfl h,fun h=>(nomatch h)⟩⟩
  rintro v11 m_ sv xr xF wF zL Gz Ii PF PG PH Ij Ik m6 Dl Il Im Io uh q6 q7 q8 ⟨R,k2,O,BC,hR,hG,hi,Ak,h17,h18,h19,h20,ZL⟩;simp only [List.drop_succ_cons,List.drop_zero,ai5,and_true]at hi Ak;obtain⟨rfl,rfl,rfl,rfl,rfl,rfl,rfl,rfl,rfl,rfl⟩:=hi;obtain⟨rfl,rfl,rfl⟩:=Ak
  change∀j,j<16→Dl j=cR R.w0.W j at h17
  change∀j,j<16→Il j=cR R.w1.W j at h18
  change∀j,j<gN s n R.g0→Im j=gT s n T R.g0 j at h19
  change∀j,j<R.n1→Io j=R.T1 j at h20
  change∀i,i<L.length→(uh (bG [(i:Int)])≠0↔O i)at ZL
  refine⟨fun bX=>⟨by omega,fun _=>⟨by omega,fun _=>⟨fun _=>rfl,fun WD=>?_⟩⟩⟩,fun _=>rfl⟩;have WH:k2<m:=by omega
  rw [aiX];obtain⟨t1,t2⟩:=hA6 k2 WH;obtain⟨t,ht⟩: ∃t:Nat,A6 k2=(t:Int):=⟨(A6 k2).toNat,by omega⟩;rw [ht,show ak .rem .i64 (t:Int) (L.length:Int)=((t%L.length:Nat):Int)from rfl];have hLp:0<L.length:=by omega
  have yL:t%L.length<L.length:=Nat.mod_lt _ hLp;obtain⟨i,wM⟩: ∃i,i=t%L.length:=⟨_,rfl⟩;rw [←wM]at yL ⊢;rw [k1c,aiX,aP .u64 16 h17,aP .u64 16 h18,J3 h19,SX h20];obtain⟨f,hf⟩: ∃f,L[i]? =some f:=⟨_,ajk yL⟩;have hfm:f∈L:=ajn hf;obtain⟨f1,f2,f3,f4⟩:=hS.ok f hfm;rw [hE i f hf]
  iterate 5 refine⟨by omega,fun _=>?_⟩
  refine⟨_,qm (B:=[jQ s n 1 jE T L]) (iB rfl) hl b1 hR v11 m_ (dV f.e) f1 f2 f3 f.X f4 (PN hfm),?_⟩;rintro x hs (⟨h0,Mt,Ip,Md,rfl,rfl⟩ | ⟨dI,rfl,rfl⟩)
  ·obtain⟨R2,ac2⟩: ∃R2,R2=jD s n 1 jE T R f.g f.c:=⟨_,rfl⟩;have hR2:=zI hR f1 f2;have hG2:=hG.opened hR hf h0;have ac3:=hG.not hf h0;rw [←ac2]at hR2 hG2 ⊢;refine⟨Ip,Md,Mt,0,0,0,(R2.g0:Nat),(R2.w0.top:Nat),R2.s1,R2.p1,R2.b1,(R2.g1:Nat),(R2.w1.top:Nat),(gN s n R2.g0:Nat),(R2.n1:Nat),(eg 1 jE f.g:Nat),(f.c:Nat),0,(f.nt:Nat),cR R2.w0.W,cR R2.w1.W,gT s n T R2.g0,R2.T1,fun j=>(f.X j:Nat),R2.w0.so,R2.w1.so,R2.two,rfl,rfl,fun _ _=>⟨fun _=>?_,fun h=>absurd rfl h⟩⟩;rw [k2c];refine⟨fun e=>e.v=[⟨bQ (m5 i),dV _⟩]∧e.i=[(f.nt:Int)]∧e.a=[fun j=>((f.X j:Nat):Int)],fun w Fs ho=>?_,?_⟩
   ·refine⟨⟨bQ (m5 i),dV _⟩,(f.nt:Int),fun j=>(f.X j:Nat),?_,rfl,rfl,rfl⟩;have ec:(fun j=>if j=i then bQ (m5 i)else bQ (m5 j))=fun j=>bQ (m5 j):=by
     funext j;by_cases h:j=i
     ·rw [if_pos h,h]
     ·rw [if_neg h]
    rw [ec];exact bL.views (A:=[_]) (B:=[p0]) (L:=[p0,_]) (EY (ar.self hD.w) (hX i f hf)) w Fs ho
   rintro GC Qb SP ⟨hv,yM,ha⟩;simp only [ai5,and_true]at hv yM ha;subst hv yM ha;have ac4: ¬uh (bG [(i:Int)])≠0:=fun h=>ac3 ((ZL i yL).1 h)
   refine⟨.inr (by omega),fun _=>⟨.inr (by omega),fun _=>⟨.inr (by omega),fun _=>⟨.inr (by omega),fun _=>⟨fun F5=>?_,fun _=>?_⟩⟩⟩⟩⟩
   ·exfalso;rcases F5 with(h | h) | h
    ·exact ac4 h
    ·exact h rfl
    ·exact h (hT.at_ i f hf)
   refine⟨fun _=>True,fun w Fs ho=>⟨?_,trivial⟩,fun _=>⟨by omega,fun _=>⟨by omega,fun _=>?_⟩⟩⟩
   ·have ec:(fun j=>if j=i then bQ (m5 i)else bQ (m5 j))=fun j=>bQ (m5 j):=by
     funext j;by_cases h:j=i
     ·rw [if_pos h,h]
     ·rw [if_neg h]
    rw [ec]at ho;exact bL.sub (a:=[_,_]) (b:=[_]) (.cons_cons _ (.cons _ .slnil)) w Fs ho
   refine⟨Ip,Md,0,0,0,_,_,_,_,_,_,_,_,_,_,cR R2.w0.W,cR R2.w1.W,gT s n T R2.g0,R2.T1,_,_,_,_,rfl,rfl,rfl,rfl,rfl,fun _ _=>rfl,rfl,rfl,rfl,rfl,rfl,rfl,rfl,fun _ _=>rfl,rfl,rfl,rfl,fun _ _=>rfl,rfl,rfl,fun _ _=>rfl,rfl,?_,?_⟩
   ·refine⟨R2,k2+1,fun j=>O j∨j=i,by omega,hR2,hG2,by simp,rfl,fun _ _=>rfl,fun _ _=>rfl,fun _ _=>rfl,fun _ _=>rfl,fun j hj=>?_⟩;show au uh (bG [(i:Int)]) 1 (bG [(j:Int)])≠0↔_;unfold au;by_cases IT:j=i
    ·subst IT;rw [if_pos rfl];exact⟨fun _=> .inr rfl,fun _=>by decide⟩
    ·rw [if_neg (fun h=>IT (by have:=qH (by rfl) h;simp at this;omega)),ZL j hj];exact⟨.inl,fun h=>h.resolve_right IT⟩
   ·show _<_;simp only [aiS,ah];omega
  ·refine⟨v11,m_,eQ,0,0,0,(R.g0:Nat),(R.w0.top:Nat),R.s1,R.p1,R.b1,(R.g1:Nat),(R.w1.top:Nat),(gN s n R.g0:Nat),(R.n1:Nat),0,0,(dN R f.g f.c:Nat),0,cR R.w0.W,cR R.w1.W,gT s n T R.g0,R.T1,fun _=>0,R.w0.so,R.w1.so,R.two,rfl,rfl,fun _ _=>⟨fun h=>absurd h (by omega),fun _=>?_⟩⟩;have on:(-9223372036854775808≤(k2:Int)+1∧(k2:Int)+1≤9223372036854775807):=by omega
   have inv:Inv2 s n jE T L m ⟨[],[v11,m_],[0,0,0,(R.g0:Int),(R.w0.top:Int),R.s1,R.p1,R.b1,(R.g1:Int),(R.w1.top:Int),(gN s n R.g0:Int),(R.n1:Int),(k2:Int)+1],[cR R.w0.W,cR R.w1.W,gT s n T R.g0,R.T1,uh],[R.w0.so,R.w1.so,R.two],[],[]⟩:=
    ⟨R,k2+1,O,by omega,hR,hG,by simp,rfl,fun _ _=>rfl,fun _ _=>rfl,fun _ _=>rfl,fun _ _=>rfl,ZL⟩
   refine⟨fun ac5=>⟨fun Dj=>?_,fun _=>⟨on.1,fun _=>⟨on.2,fun _=>?_⟩⟩⟩,fun ac5=>⟨fun _=>⟨on.1,fun _=>⟨on.2,fun _=>?_⟩⟩,fun ahX=>⟨fun _=>⟨on.1,fun _=>⟨on.2,fun _=>?_⟩⟩,fun ahY=>⟨fun _=>⟨on.1,fun _=>⟨on.2,fun _=>?_⟩⟩,fun h5=>?_⟩⟩⟩⟩
   ·exact absurd ((ZL i yL).2 (hG.Ze hS.one hf (by omega))) Dj
   rotate_right
   ·rcases Gd R f.g f.c with h | h | h | h | h<;>omega
   all_goals
    refine⟨v11,m_,0,0,0,_,_,_,_,_,_,_,_,_,_,cR R.w0.W,cR R.w1.W,gT s n T R.g0,R.T1,_,_,_,_,rfl,rfl,rfl,rfl,rfl,fun _ _=>rfl,rfl,rfl,rfl,rfl,rfl,rfl,rfl,fun _ _=>rfl,rfl,rfl,rfl,fun _ _=>rfl,rfl,rfl,fun _ _=>rfl,rfl,inv,?_⟩;show _<_;simp only [aiS,ah];omega
theorem Mh(s n:Nat)(T_:Int)(T:Nat→Int)(v0 v1 v2:V1)(D:Dz)(m:Nat)(A6:Nat→Int){p0:HP}(hD:Mg p0 D)(hm:m≤140737488355328)(hA6: ∀j,j<m→0≤A6 j∧A6 j≤65535):
  ax aiT 5 [.int .u16 (s:Int),v0.v,.int .i64 T_,v1.v,v2.v] [p0,bn false v0 n T,Ir v1 D,aG false 3 1 v2.v m (aW m [bd .u16 1 A6])] fun r _=>r= .bool true:=by
 refine ax.pre (Qy:=[p0,bn false v0 n T,Ir v1 D,aG false 3 1 v2.v m (aW m [bd .u16 1 A6]),flock []]) ?_ (Lz _);by_cases hc:Fx.Can s n 1 T_
 ·obtain⟨bits,rfl,hl⟩:=hc;exact Wm hl v0 v1 v2 D m A6 hD hm hA6
 by_cases h5:1≤s∧s≤5
 ·have he:Ig s=2:=if_pos h5;refine SQ _ (s:Int) T_ (n:Int) (D.n:Int) (m:Int) T D.K D.E2 D.E3 D.C D.N A6 v0 v1 v2 p0 (flock []) ?_;unfold J0;refine⟨_,Fz.qo,?_⟩;rintro x hs ⟨rfl,rfl⟩;refine⟨rfl,rfl,?_⟩;refine⟨_,xp (B:=[bn false v0 n T]) s n 1 T_ T v0 (ar.dD 0 rfl),?_⟩;rintro x hs (⟨_,rfl,rfl⟩ | ⟨bits,_,_,rfl,hl,_⟩);rotate_left
  ·exact absurd ⟨bits,rfl,hl⟩ hc
  rw [he];refine⟨rfl,rfl,?_⟩;refine⟨_,xq (B:=[bn false v0 n T]) s n 1 T_ T v0 (ar.dD 0 rfl),?_⟩;rintro x hs (⟨_,rfl,rfl⟩ | ⟨bits,_,_,rfl,hl,_⟩);rotate_left
  ·exact absurd ⟨bits,rfl,hl⟩ hc
  rw [he];exact⟨rfl,rfl,rfl⟩
 ·have he:Ig s=130:=if_neg h5;refine SR _ (s:Int) T_ (n:Int) (D.n:Int) (m:Int) T D.K D.E2 D.E3 D.C D.N A6 v0 v1 v2 p0 (flock []) ?_;unfold J1;refine⟨_,Fz.qo,?_⟩;rintro x hs ⟨rfl,rfl⟩;refine⟨rfl,rfl,?_⟩;refine⟨_,xp (B:=[bn false v0 n T]) s n 1 T_ T v0 (ar.dD 0 rfl),?_⟩;rintro x hs (⟨_,rfl,rfl⟩ | ⟨bits,_,_,rfl,hl,_⟩);rotate_left
  ·exact absurd ⟨bits,rfl,hl⟩ hc
  rw [he];refine⟨rfl,rfl,?_⟩;refine⟨_,xq (B:=[bn false v0 n T]) s n 1 T_ T v0 (ar.dD 0 rfl),?_⟩;rintro x hs (⟨_,rfl,rfl⟩ | ⟨bits,_,_,rfl,hl,_⟩);rotate_left
  ·exact absurd ⟨bits,rfl,hl⟩ hc
  rw [he];exact⟨rfl,rfl,rfl⟩
open Go Go.RX Go.Proofs Go.RX.Fg Go.RX.Fh Go.RX.Fi Go.RX.Fj Go.RX.Fk
open Go.ChangeShapes Go.WideShapes Go.ChangeAt Go.RowKit
theorem Is{L:List HP}{w:World}(h: ∀x∈L,x.wr=false∧∃S:Nat→Prop,x.p w S∧∀k,S k→k<w.heap.size):bz (L++[lI w.heap.size w]) w:=by
 have h1: ∀x∈L++[lI w.heap.size w],x.wr=false∧∃S:Nat→Prop,x.p w S∧∀k,S k→k<w.heap.size:=by
  intro x hx;rcases ajt.1 hx with hx | hx
  ·exact h x hx
  ·simp only [ai0,aiZ,or_false]at hx;subst hx;exact⟨rfl,fun k=>k<w.heap.size,⟨fun _=>Iff.rfl,fun _ _=>rfl⟩,fun _ h=>h⟩
 generalize L++[lI w.heap.size w]=M at h1;have h2: ∀i:Nat,∃S:Nat→Prop,∀x,M[i]? =some x→x.p w S∧∀k,S k→k<w.heap.size:=by
  intro i;cases hi:M[i]? with
  | none=>exact⟨fun _=>False,fun x hx=>by cases hx⟩
  | some y=>
   obtain⟨_,S,hp,hk⟩:=h1 y (ajn hi);exact⟨S,fun x hx=>by cases hx;exact⟨hp,hk⟩⟩
 refine⟨fun i=>(h2 i).choose,⟨fun i x hx=>(h2 i).choose_spec x hx,?_⟩⟩;intro i j x y _ hi hj ud;rw [(h1 x (ajn hi)).1,(h1 y (ajn hj)).1]at ud;simp at ud
theorem Iu{k:IntKind}{w:World}{a:Option Addr}{len cap:Nat}{zs:List Int}(h:oX k w a len cap zs)(ahZ:k.min=0)(j:Nat):0≤zs.getD j 0∧(zs.getD j 0≤k.max∨zs.getD j 0=0):=by
 rcases h with⟨_,_,_,rfl⟩ | ⟨_,_,_,_,_,_,hw⟩
 ·simp
 ·by_cases hj:j<zs.length
  ·have:=hw zs[j] (List.getElem_mem hj);simp only [Lit.wf,ai,decide_eq_true_eq]at this;simp [hj];omega
  ·simp [ajz (by omega:zs.length≤j)]
theorem Wo{w:World}{a:Option Addr}{len cap:Nat}{zs:List Int}(h:oX .u8 w a len cap zs)(j:Nat):(zs.getD j 0).toNat<256:=by
 have:=Iu h (by decide) j;rw [show IntKind.u8.max=255 by decide]at this;omega
theorem J4{w:World}{a:Option Addr}{len cap:Nat}{zs:List Int}(h:oX .u8 w a len cap zs): ∃S:Nat→Prop,(aH (.slice a len cap) len fun j=>(zs.getD j 0).toNat).p w S∧∀k,S k→k<w.heap.size:=by
 have hz:(fun j=>(((zs.getD j 0).toNat:Nat):Int))=fun j=>zs.getD j 0:=by
  funext j;have:=(Iu h (by decide) j).1;omega
 refine⟨_,?_,(uV h 5).2⟩;unfold aH;rw [hz];exact(uV h 5).1
theorem zN{w:World}{a:Option Addr}{len cap:Nat}{zs:List Int}(h:oX .u8 w a len cap zs):ar [lI w.heap.size w] (aH (.slice a len cap) len fun j=>(zs.getD j 0).toNat):=by
 obtain⟨S',hp,hk⟩:=J4 h;refine⟨rfl,fun w' S hS=>⟨S',?_,fun k hs=>⟨0,by simp,?_⟩⟩⟩
 ·obtain⟨⟨_,h2⟩,_⟩:=hS.at_ 0 _ rfl;exact HP.fy _ w w' S' hp fun k hs=>h2 k (hk k hs)
 ·obtain⟨⟨h1,_⟩,_⟩:=hS.at_ 0 _ rfl;exact(h1 k).2 (hk k hs)
section
variable {H:Type} {enc:TypeId×Value→H} {w:World} {base:Nat} {held:Bool}
theorem qs{fuel:Nat}{cs:List Value}{x:DataW H×List MemPlace}(h:DataW.trod enc aiT w base (fun _=>true) held fuel 24 cs=some x)(hz: ∀q∈x.1.weights aiT 24,q≤reachBytes): ∃a len cap zs,cs=[.slice a len cap]∧oX .u8 w a len cap zs∧len≤140737488355328:=by
 rcases open_ints Tryz.underlying24 Tryz.underlying5 (by kernel_rfl) h with⟨mw,_⟩ | ⟨x,l,c,zs,mw,_,hl,hm,Ks,rfl,kv,hwz⟩
 ·exact⟨none,0,0,[],mw,.inl ⟨rfl,rfl,rfl,rfl⟩,by omega⟩
 ·simp only [if_true]at Ks;refine⟨some x,l,c,zs,mw,.inr ⟨x,rfl,hl,hm,Ks,kv,hwz⟩,?_⟩;have hb:Tryz.prog.bytesOf 5=1:=by kernel_rfl
  have:=hz ((zs.take l).length+(zs.drop l).length) (by simp [DataW.weights,Tryz.underlying24,hb,lits]);have hr:=reachBytes_lt;simp only [List.length_take,List.length_drop]at this;omega
theorem at_one{cs:List Value}{o:Nat}{v:Value}(h:(cs.drop o).take 1=[v]):cs[o]? =some v:=by
 have:=congrArg (fun l=>l[0]?) h;simpa using this
theorem wH{P:Program}{e:TypeId}{d:DataW H}{q:Nat}: ∀{l:List (DataW H)},d∈l→q∈d.weights P e→q∈DataW.weightsAll P e l
 | y::l,hd,hq=>by
  simp only [DataW.weightsAll,ajt];rcases ai0.1 hd with rfl | hd
  ·exact .inl hq
  ·exact .inr (wH hd hq)
set_option maxRecDepth 100000 in
theorem SY{fuel:Nat}{cs:List Value}{x:DataW H×List MemPlace}(h:DataW.trod enc aiT w base (fun _=>true) held fuel 59 cs=some x)(hz: ∀q∈x.1.weights aiT 59,q≤reachBytes):
  ∃(k:Int) (a:Option Addr) (l c:Nat) (zs:List Int) (a2:Option Addr) (l2 c2:Nat) (ZM:List Int) (ct n:Int),(∀(j:Nat) u,[(.int .u8 k:Value),.slice a l c,.slice a2 l2 c2,.int .u64 ct,.int .i64 n][j]? =some u→cs[j]? =some u)∧
   oX .u8 w a l c zs∧oX .u8 w a2 l2 c2 ZM∧(0≤ct∧ct<18446744073709551616)∧l≤140737488355328∧l2≤140737488355328:=by
 obtain⟨xs,n,_,rfl,hl,hxl,hf⟩:=DataW.trod_struct Tryz.underlying59 h;have t_: ∀i,i<5→∃y,xs[i]? =some y:=fun i hi=>⟨_,ajk (by simpa using (by rw [hxl];exact hi:i<xs.length))⟩
 obtain⟨y0,h0⟩:=t_ 0 (by decide);obtain⟨y1,h1⟩:=t_ 1 (by decide);obtain⟨y2,h2⟩:=t_ 2 (by decide);obtain⟨y3,h3⟩:=t_ 3 (by decide);obtain⟨y4,h4⟩:=t_ 4 (by decide);have f0:DataW.trod enc aiT w base (fun _=>true) held n 5 ((cs.drop 0).take (Tryz.prog.cellsOf 5))=xs[0]? :=hf 0 _ rfl;have f1:DataW.trod enc aiT w base (fun _=>true) held n 24 ((cs.drop 1).take (Tryz.prog.cellsOf 24))=xs[1]? :=hf 1 _ rfl;have f2:DataW.trod enc aiT w base (fun _=>true) held n 24 ((cs.drop 2).take (Tryz.prog.cellsOf 24))=xs[2]? :=hf 2 _ rfl;have f3:DataW.trod enc aiT w base (fun _=>true) held n 23 ((cs.drop 3).take (Tryz.prog.cellsOf 23))=xs[3]? :=hf 3 _ rfl;have f4:DataW.trod enc aiT w base (fun _=>true) held n 3 ((cs.drop 4).take (Tryz.prog.cellsOf 3))=xs[4]? :=hf 4 _ rfl;have c5:Tryz.prog.cellsOf 5=1:=by kernel_rfl
 have c24:Tryz.prog.cellsOf 24=1:=by kernel_rfl
 have c23:Tryz.prog.cellsOf 23=1:=by kernel_rfl
 have c3:Tryz.prog.cellsOf 3=1:=by kernel_rfl
 rw [h0,c5]at f0;rw [h1,c24]at f1;rw [h2,c24]at f2;rw [h3,c23]at f3;rw [h4,c3]at f4;have part: ∀(j:Nat) (y:DataW H×List MemPlace),xs[j]? =some y→∀t,([5,24,24,23,3]:List TypeId)[j]? =some t→∀q∈y.1.weights aiT t,q≤reachBytes:=by
  intro j y hy t ht q hq;refine hz q ?_;show q∈DataW.weights aiT 59 (.agg (xs.map (·.1)));simp only [DataW.weights,Tryz.underlying59];exact DataW.weights_mem_each (ts:=[5,24,24,23,3]) ht (by rw [List.getElem?_map,hy];rfl) q hq
 obtain⟨z0,e0,_,_⟩:=DataW.trod_int Tryz.underlying5 f0;obtain⟨a,l,c,zs,e1,r1,b1⟩:=qs f1 (part 1 y1 h1 24 rfl);obtain⟨a2,l2,c2,ZM,e2,r2,b2⟩:=qs f2 (part 2 y2 h2 24 rfl);obtain⟨z3,e3,_,w3⟩:=DataW.trod_int Tryz.underlying23 f3;obtain⟨z4,e4,_,_⟩:=DataW.trod_int Tryz.underlying3 f4;refine⟨z0,a,l,c,zs,a2,l2,c2,ZM,z3,z4,?_,r1,r2,?_,b1,b2⟩
 ·intro j u hu
  match j,hu with
  | 0,hu=>cases hu;exact at_one e0
  | 1,hu=>cases hu;exact at_one e1
  | 2,hu=>cases hu;exact at_one e2
  | 3,hu=>cases hu;exact at_one e3
  | 4,hu=>cases hu;exact at_one e4
  | j+5,hu=>simp at hu
 ·simp [Lit.wf,IntKind.min,IntKind.max,IntKind.signed,IntKind.bits]at w3;omega
end
theorem Ua(f:Nat→List Value)(hf: ∀i,(f i).length=5): ∀n:Nat,((ajw n).flatMap f).length=n*5∧∀(m:Nat) u,((ajw n).flatMap f)[m]? =some u→∃i j,i<n∧m=i*5+j∧(f i)[j]? =some u
 | 0=>⟨rfl,fun m u h=>by simp at h⟩
 | n+1=>by
  obtain⟨h1,h2⟩:=Ua f hf n;have e:(ajw (n+1)).flatMap f=(ajw n).flatMap f++f n:=by simp [List.range_succ,List.flatMap_append]
  rw [e];refine⟨by rw [List.length_append,h1,hf];omega,fun m u h=>?_⟩;by_cases hm:m<((ajw n).flatMap f).length
  ·rw [aiR hm]at h;obtain⟨i,j,q1,q2,q3⟩:=h2 m u h;exact⟨i,j,by omega,q2,q3⟩
  ·rw [aiW (by omega)]at h;refine⟨n,_,by omega,?_,h⟩;rw [h1]at hm ⊢;omega
def Dz.at_(D:Dz)(i:Nat):List Value:=[.int .u8 (D.K i),bQ (D.E2 i),bQ (D.E3 i),.int .u64 (D.C i),.int .i64 (D.N i)]
theorem PO(D:Dz):aW D.n [bd .u8 1 D.K,cJ 1 (fun j=>bQ (D.E2 j)),cJ 1 (fun j=>bQ (D.E3 j)),bd .u64 1 D.C,bd .i64 1 D.N]=(ajw D.n).flatMap D.at_:=by
 unfold aW Dz.at_;have h1:ajw 1=[0]:=rfl;simp [bd,cJ,aj,h1]
structure SZ (w:World) (a:Option Addr) (cap:Nat) (D:Dz):Prop where
 nil:a=none→D.n=0
 le:D.n≤cap
 at_: ∀x,a=some x→∀i,i<D.n→∀(j:Nat) u,(D.at_ i)[j]? =some u→w.cell? (x.add (i*5+j))=some u
theorem add_zero'(x:Addr):x.add 0=x:=by unfold Addr.add;rw [if_pos rfl]
theorem PQ(x:Addr)(i j:Nat):(x.add i).add j=x.add (i+j):=by
 unfold Addr.add;by_cases hi:i=0
 ·subst hi;simp
 ·by_cases hj:j=0
  ·subst hj;simp [hi]
  ·simp [hi,hj,Nat.add_assoc]
theorem ac7{w:World}{a:Option Addr}{cap:Nat}{D:Dz}(h:SZ w a cap D): ∃S:Nat→Prop,(Ir ⟨.slice a D.n cap,rfl⟩ D).p w S∧∀k,S k→k<w.heap.size:=by
 have f5:=Ua D.at_ (fun _=>rfl) D.n;rw [←PO]at f5;refine⟨fun k=>(Value.slice a D.n cap).ownBlock=some k∧0<D.n,⟨?_,fun k=>by simp⟩,?_⟩
 ·simp only [Bool.false_eq_true,if_false];refine⟨f5.1,a,D.n,cap,rfl,rfl,h.le,h.nil,fun ad pr=>⟨fun od=>?_,fun m u hu=>?_⟩⟩
  ·have h0:=h.at_ ad pr 0 od 0 _ rfl;rw [Nat.zero_mul,Nat.zero_add,add_zero']at h0;exact World.cell?_spot h0
  ·obtain⟨i,j,q1,rfl,q3⟩:=f5.2 m u hu;exact h.at_ ad pr i q1 j u q3
 ·rintro k ⟨hk,od⟩;cases a with
  | none=>simp [Value.ownBlock]at hk
  | some x=>
   simp only [Value.ownBlock,aiP]at hk;subst hk;have:=World.block_lt_of_cell? w _ (h.at_ x rfl 0 od 0 _ rfl);rw [Nat.zero_mul,Nat.zero_add,add_zero']at this;exact this
set_option maxRecDepth 100000 in
theorem S3{H:Type}{enc:TypeId×Value→H}{w:World}{base:Nat}{held:Bool}{fuel:Nat}{cs:List Value}{x:DataW H×List MemPlace}(h:DataW.trod enc aiT w base (fun _=>true) held fuel 38 cs=some x)(hz: ∀q∈x.1.weights aiT 38,q≤reachBytes):
  ∃a cap D,cs=[.slice a D.n cap]∧SZ w a cap D∧Mg (lI w.heap.size w) D:=by
 rcases DataW.trod_slice Tryz.underlying38 h with⟨rfl,_⟩ | ⟨a,len,cap,elems,rest,m,_,rfl,rfl,hb,hl,hm,hlen,hel,_,_⟩
 ·exact⟨none,0,⟨0,fun _=>0,fun _=>0,fun _=>0,fun _=>0,fun _=>0,fun _=>0,fun _=>0,fun _ _=>0,fun _ _=>0⟩,rfl,⟨fun _=>rfl,Nat.le_refl _,fun _ h=>(nomatch h)⟩,⟨rfl,Nat.zero_le _,fun _ h=>absurd h (Nat.not_lt_zero _),fun _ h=>absurd h (Nat.not_lt_zero _),fun _ h=>absurd h (Nat.not_lt_zero _)⟩⟩
 have hw: ∀q∈(DataW.slice (elems.map (·.1)) (rest.map (·.1))).weights aiT 38,q≤reachBytes:=hz;simp only [DataW.weights,Tryz.underlying38,ai0,ajt]at hw;have key: ∀i,∃(k:Int) (e2 e3 ct nn:Int) (l l2:Nat) (X X2:Nat→Nat),i<len→(∀(j:Nat) u,[(.int .u8 k:Value),bQ e2,bQ e3,.int .u64 ct,.int .i64 nn][j]? =some u→w.cell? (a.add (i*5+j))=some u)∧
   ar [lI w.heap.size w] (aH (bQ e2) l X)∧ar [lI w.heap.size w] (aH (bQ e3) l2 X2)∧(∀j,X2 j<256)∧(0≤ct∧ct<18446744073709551616)∧l≤140737488355328∧l2≤140737488355328:=by
  intro i;by_cases hi:i<len
  ·have h1:=hel i hi;have hg:elems[i]? =some (elems[i]'(by omega)):=ajk (by omega);rw [hg,Option.bind_eq_some_iff]at h1;obtain⟨xJ,mw,htr⟩:=h1;obtain⟨k,b,l,c,zs,b2,l2,c2,ZM,ct,nn,q1,q2,q3,q4,q5,q6⟩:=SY htr (fun q hq=>hw q (.inr (.inl (wH (ai_.2 ⟨_,List.getElem_mem (by omega:i<elems.length),rfl⟩) hq))));obtain⟨_,dz,dA⟩:=World.cells?_some mw;have hc5:Tryz.prog.cellsOf 59=5:=by kernel_rfl
   rw [hc5]at dA;obtain⟨e2,he2⟩:=xG b l c;obtain⟨e3,he3⟩:=xG b2 l2 c2;refine⟨k,e2,e3,ct,nn,l,l2,fun j=>(zs.getD j 0).toNat,fun j=>(ZM.getD j 0).toNat,fun _=>⟨fun j u hu=>?_,?_,?_,Wo q3,q4,q5,q6⟩⟩
   ·have hj:j<5:=(aiN.1 hu).1;have:=dA j (by omega);rw [←he2,←he3]at hu;rw [q1 j u hu,PQ]at this;exact this
   ·rw [←he2];exact zN q2
   ·rw [←he3];exact zN q3
  ·exact⟨0,0,0,0,0,0,0,fun _=>0,fun _=>0,fun h=>absurd h hi⟩
 obtain⟨K,hF⟩:=ajH key;obtain⟨E2,hF⟩:=ajH hF;obtain⟨E3,hF⟩:=ajH hF;obtain⟨C,hF⟩:=ajH hF;obtain⟨N,hF⟩:=ajH hF;obtain⟨nm,hF⟩:=ajH hF;obtain⟨nb,hF⟩:=ajH hF;obtain⟨XM,hF⟩:=ajH hF;obtain⟨XB,hF⟩:=ajH hF;refine⟨some a,cap,⟨len,K,E2,E3,C,N,nm,nb,XM,XB⟩,rfl,⟨fun h=>(nomatch h),hl,?_⟩,⟨rfl,?_,fun i hi=>?_,fun i hi=>?_,fun i hi=>?_⟩⟩
 ·rintro _ ⟨⟩ i hi j u hu;exact(hF i hi).1 j u hu
 ·have ac8:Tryz.prog.bytesOf 59=72:=by kernel_rfl
  have:=hw _ (.inl rfl);have hr:=reachBytes_lt;rw [ac8]at this;simp only [List.length_map]at this;show len≤_;omega
 ·exact⟨(hF i hi).2.2.2.2.2.1,(hF i hi).2.1⟩
 ·exact⟨(hF i hi).2.2.2.2.2.2,(hF i hi).2.2.1,(hF i hi).2.2.2.1⟩
 ·exact(hF i hi).2.2.2.2.1
end Go.RX.Fy
