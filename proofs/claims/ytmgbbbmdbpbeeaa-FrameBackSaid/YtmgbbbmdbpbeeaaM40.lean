/- MACs. -/
import Derived.Test.YtmgbbbmdbpbeeaaM39
open Go.Extern.BytealgMakeNoZero renaming digits → ad7
open Go.IntKind renaming wrap → ae
open Go.Proofs.Try renaming prog → adE
open List renaming append_eq → adG, getD_cons_zero → ah, map_cons → adT, mem_cons → adW, not_mem_nil → adP
open List.cons renaming injEq → adF
open Nat renaming xor_comm → ad5
namespace Go.RX.Fm
open Go Go.RX Go.Proofs Go.RX.Sh Go.RX.Fg Go.RX.Fj Go.RX.Fk
theorem zN(k:IntKind)(n:Nat)(c:Int)(A:Nat→Int):aj k (n+1) (fun j=>if j=0 then c else A (j - 1))= .int k c::aj k n A:=by
 unfold aj;rw [List.range_succ_eq_map,adT,List.map_map];congr 1
theorem vn: ∀(n t:Nat) (acc:Array Value),∃A:Nat→Int,(ad7 n t acc).toList=acc.toList++aj .u8 n A
 | 0,_,acc=>⟨fun _=>0,by simp [ad7,aj]⟩
 | n+1,t,acc=>by
  obtain⟨A,hA⟩:=vn n (t/256) (acc.push (.int .u8 (Int.ofNat (t%256))));refine⟨fun j=>if j=0 then Int.ofNat (t%256)else A (j - 1),?_⟩;rw [ad7,hA,zN];simp
theorem SS{P:Program}(w:World)(ps:Array TypeId)(t e:TypeId)(ht:P.underlying t=some (.slice e))(n:Nat)(hn:n≤140737488355328):
  ∃(m:Nat) (A:Nat→Int),(Extern.BytealgMakeNoZero.makeNoZero ps #[t] #[.int .i64 n]).run P w= .ok (.slice (some ⟨w.heap.size,0,none⟩) n m) (w.drew.drew.alloc (.cells (aj .u8 m A).toArray e))∧n≤m∧m≤maxLen:=by
 have Pd:Extern.BytealgMakeNoZero.makeNoZero ps #[t] #[.int .i64 n]=
   (do
    let .slice elem←underlying t | stuck "bytealg.MakeNoZero: slice type expected"
    if(n:Int)<0||(n:Int)>2^48 then runtimePanic (.error "makeslice: len out of range")
    let cap←choose (.appendCap (n:Int).toNat 0 elem)
    askRoom cap
    let bytes←choose (.extern "internal/bytealg.MakeNoZero.bytes" 0)
    let a←newRow elem (ad7 cap bytes #[])
    pure (.slice (some a) (n:Int).toNat cap)):=rfl
 obtain⟨A,hA⟩:=vn (grownCap w n 0 e) ((Question.extern "internal/bytealg.MakeNoZero.bytes" 0).cut (w.tape (w.drawn+1) (.extern "internal/bytealg.MakeNoZero.bytes" 0))) #[]
 have ZK:ad7 (grownCap w n 0 e) ((Question.extern "internal/bytealg.MakeNoZero.bytes" 0).cut (w.tape (w.drawn+1) (.extern "internal/bytealg.MakeNoZero.bytes" 0))) #[]=(aj .u8 (grownCap w n 0 e) A).toArray:=by
  apply Array.ext';rw [hA];simp
 refine⟨grownCap w n 0 e,A,?_,grownCap_ge w n 0 e,grownCap_le_maxLen w n 0 e (by unfold maxLen;omega)⟩;rw [Pd];have h1: ¬(n:Int)<0:=by omega
 have h2: ¬(281474976710656:Int)<(n:Int):=by omega
 simp only [grownCap]at ZK;simp [run_underlying ht,h1,h2,Question.forced,newRow,grownCap,ZK]
theorem EU(n:Nat)(hn:n≤140737488355328):Bj adE 65 [.int .i64 (n:Int)] [] fun r hs=> ∃(v:V1) (A:Nat→Int),r=v.v∧hs=[au true 5 1 v.v n (aK n [aJ .u8 1 A])]:=by
 intro w Fs ho;have hu:Try.prog.underlying 23=some (.slice 5):=by kernel_rfl
 obtain⟨m,A,hr,Re,hm⟩:=SS (P:=adE) w #[3] 23 5 hu n hn;refine⟨.slice (some ⟨w.heap.size,0,none⟩) n m,[au true 5 1 (.slice (some ⟨w.heap.size,0,none⟩) n m) n (aK n [aJ .u8 1 A])],w.drew.drew.alloc (.cells (aj .u8 m A).toArray 5),?_,⟨⟨_,rfl⟩,A,rfl,rfl⟩,?_,⟨rfl,rfl,rfl,by simp⟩⟩
 ·rw [run_callFunc_extern Try.func65 (by kernel_rfl) (by kernel_rfl) (by kernel_rfl) (e:=Extern.BytealgMakeNoZero.makeNoZero #[3] #[23]) (by kernel_rfl)];rw [show([Value.int .i64 (n:Int)].toArray)= #[.int .i64 (n:Int)]from rfl,hr];rfl
 ·have Yc:(w.drew.drew.alloc (.cells (aj .u8 m A).toArray 5)).heap[w.heap.size]? =some (.cells (aj .u8 m A).toArray 5 (0,0)):=heap_alloc_new w.drew.drew _;refine bG.add (a:=[]) ho _ (fun k=>k=w.heap.size∧True) (by simp) (fun k hk=>heap_alloc_old w.drew.drew _ hk) ?_ ?_
  ·refine⟨?_,fun k=>?_⟩
   ·simp only [if_true];rw [gl];refine⟨by rw [aF,Nat.mul_one],.inr ⟨w.heap.size,0,m,_,rfl,⟨5,_,Yc,.zero _⟩,Re,hm,fun _=>by simp [aF],?_⟩⟩;rw [List.drop_zero,List.toList_toArray,Nat.mul_one,dq .u8 m n A Re]
   ·simp [Value.ownBlock,eq_comm]
  ·rintro k ⟨rfl,_⟩;exact⟨Nat.le_refl _,by simp⟩
theorem bU.part{v:V1}{t n m:Nat}{mx:Option Nat}{cs:List Value}(h:m≤n)(QY: ∀x,mx=some x→m≤x∧x≤n)(hm:0<m):bU [au true t 1 v.v n cs] [au true t 1 (aC 1 v.v 0 m mx) m (cs.take m)]:=by
 rintro w Fs ⟨S,hS⟩;have h0:=(hS.at_ 0 _ rfl).1;obtain⟨h1,h2⟩:=h0;simp only [if_true]at h1;obtain⟨hlen,hc⟩:=h1;rcases hc with⟨_,TD⟩ | ⟨g,o,cap,cur,hv,hg,CZ,NZ,o_,C7⟩
 ·omega
 have dz:aC 1 v.v 0 m mx= .slice (some ⟨g,o,none⟩) m (mx.getD cap):=by
  rw [hv];unfold aC;have dR: ¬mx.getD cap=0:=by
   cases mx with
   | none=>simp;omega
   | some x=>have:=QY x rfl;simp;omega
  simp only [Nat.zero_mul,if_neg dR,Option.map_some,Nat.sub_zero];rfl
 have Yd:m≤mx.getD cap∧mx.getD cap≤cap:=by
  cases mx with
  | none=>simp;omega
  | some x=>have:=QY x rfl;simp;omega
 refine bG.weaken (a:=[au true t 1 v.v n cs]) hS 0 _ _ rfl (fun _=>rfl) (fun k=>k=g) (fun k hk=>?_) ⟨?_,fun k=>?_⟩
 ·exact(h2 k).2 ⟨by rw [hv,hk];rfl,.inl rfl⟩
 ·simp only [if_true];rw [dz];refine⟨by rw [List.length_take];omega,.inr ⟨g,o,mx.getD cap,cur,rfl,hg,Yd.1,by omega,fun _=>by have:=o_ (by omega);omega,?_⟩⟩;rw [←C7,List.take_take,Nat.mul_one,Nat.mul_one,Nat.min_eq_left h]
 ·rw [dz];simp [Value.ownBlock,eq_comm]
theorem nf{A:Nat→Int}{x:Int}(n:Nat)(h: ∀j,j<n→A j=x)(j:Nat)(hj:j<n+n):aA A n n A j=x:=by
 unfold aA;split
 ·exact h _ (by omega)
 ·exact h j (by omega)
theorem EV(v0:V1)(A0:Nat→Int):ar adE 57 [v0.v,.int .i64 64] [au false 5 1 v0.v 1 (aK 1 [aJ .u8 1 A0])] fun r hs=> ∃o:V1,r=o.v∧hs=[au true 5 1 o.v 64 (aK 64 [aJ .u8 1 fun _=>A0 0])]:=by
 refine ar.post (p:=fun r hs=> ∃(v:V1) (F:Nat→Int),r=aC 1 v.v 0 64 (some 64)∧hs=[au true 5 1 v.v 64 (aK 64 [aJ .u8 1 F])]∧∀j,j<64→F j=A0 0) ?_ ?_;rotate_left
 ·rintro r hs ⟨v,F,rfl,rfl,hF⟩;refine⟨_,bU.part (m:=64) (mx:=some 64) (Nat.le_refl _) (fun x hx=>by cases hx;omega) (by decide),⟨_,aI 1 v.v 0 64 (some 64)⟩,rfl,?_⟩;rw [cm hF,gl,dq .u8 64 64 _ (Nat.le_refl _)]
 refine I9 _ A0 v0 ?_;unfold Ab;refine⟨_,EU 64 (by decide),?_⟩;rintro x hs ⟨v1,A1,rfl,rfl⟩;refine⟨v1,64,A1,rfl,rfl,by omega,fun _=>⟨v1,_,rfl,rfl,?_⟩⟩;refine nf 32 (nf 16 (nf 8 (nf 4 (nf 2 (nf 1 fun j hj=>?_)))));have:j=0:=by omega
 subst this;rfl
theorem sL{B:List HP}{x:Value}(hx:x.oneCell'=true)(w:Nat)(h:ay B (aL x 1 fun _=>w)):ar adE 57 [x,.int .i64 64] B fun r hs=> ∃o:V1,r=o.v∧hs=B++[al true o 64 fun _=>w]:=
 j5 (EV ⟨x,hx⟩ fun _=>(w:Int)) (iZ h)
theorem Kc(v0:V1)(K:Nat→Nat)(hK: ∀j,K j<256)(w:Nat)(hw:w<256):ar adE 49 [.int .u8 1,v0.v,.int .u8 (w:Int)] [al false v0 32 K] fun r hs=> ∃o:V1,r=o.v∧hs=[al true o 64 (j6 32 K w)]:=by
 refine FU _ (w:Int) (fun j=>(K j:Nat)) v0 ?_;unfold wW;intro b0;have hb:ay [aq b0 true [.int .u8 (w:Int)]] (aL (.slice (some ⟨b0,0,none⟩) 1 1) 1 fun _=>w):=
  ay.block (b:=b0) (n:=1) (m:=1) (wr:=true) (A:=fun _=>(w:Int)) (T:=fun _=>w) (fun _ _=>rfl) (Nat.le_refl _)
 refine⟨_,sL rfl w hb,?_⟩;rintro x hs ⟨v1,rfl,rfl⟩;refine⟨v1,64,fun _=>(w:Int),rfl,rfl,?_⟩;refine⟨fun e=> ∃i:Nat,i≤32∧e.i=[(i:Int)]∧∀j,j<64→(e.a.getD 0 fun _=>0) j=(j6 i K w j:Nat),fun e=>((32:Int) - e.i.getD 0 0).toNat,⟨0,_,rfl,fun _ _=>rfl,0,by omega,rfl,fun j hj=>?_⟩,?_⟩
 ·simp only [ah];unfold j6;rw [if_neg (by omega),Nat.zero_xor]
 rintro x2 A2 ⟨i,hi,hx,hA⟩;simp only [adF,and_true]at hx;subst hx;simp only [ah]at hA;refine⟨fun bP=>?_,fun ig=>?_⟩
 ·iterate 4 refine⟨by omega,fun _=>?_⟩
  refine⟨_,_,rfl,fun _ _=>rfl,⟨i+1,by omega,rfl,fun j hj=>?_⟩,?_⟩
  ·have hj:j<64:=hj;simp only [ah];rw [Int.toNat_natCast];unfold ao;split
   ·rename_i e;subst e;rw [hA j hj,Fe.cz (Cp hK hw _ _) (hK _)];unfold j6;rw [if_neg (by omega),if_pos (by omega),Nat.zero_xor,ad5]
   ·rename_i e;rw [hA j hj];unfold j6;by_cases c:j<i
    ·rw [if_pos c,if_pos (by omega)]
    ·rw [if_neg c,if_neg (by omega)]
  ·simp only [ah];omega
 ·have h32:i=32:=by omega
  subst h32;refine⟨v1,rfl,?_⟩;show [au true 5 1 v1.v 64 (aK 64 [aJ .u8 1 A2])]=_;unfold al;rw [cm hA]
theorem AO{B:List HP}{x:Value}(hx:x.oneCell'=true)(K:Nat→Nat)(hK: ∀j,K j<256)(w:Nat)(hw:w<256)(h:ay B (aL x 32 K)):ar adE 49 [.int .u8 1,x,.int .u8 (w:Int)] B fun r hs=> ∃o:V1,r=o.v∧hs=B++[al true o 64 (j6 32 K w)]:=
 j5 (Kc ⟨x,hx⟩ K hK w hw) (iZ h)
theorem j7{n:Nat}(s:Nat)(hs:s≤64):ae .u8 (ak .shr .i64 (n:Int) (s:Int))=((n/2^s%256:Nat):Int):=by
 rw [fM .i64 n s hs,wrap_u8,Nat.shiftRight_eq_div_pow]
theorem M4(n:Nat):ar adE 41 [.int .i64 (n:Int)] [] fun r hs=> ∃o:V1,r=o.v∧hs=[al true o 8 (ew n)]:=by
 refine ar.post (p:=fun r hs=> ∃o:V1,r=o.v∧hs[1]? =some (al true o 8 (ew n))) ?_ ?_;rotate_left
 ·rintro r hs ⟨o,rfl,h⟩;exact⟨_,bU.MS 1 h,o,rfl,rfl⟩
 refine TV _ (n:Int) ?_;unfold QJ
 intros
 rename_i v7;refine⟨v7,rfl,congrArg some ?_⟩;unfold al;refine congrArg (au true 5 1 v7.v 8) (cm fun j hj=>?_);unfold ew
 match j,hj with
 | 0,_=>exact j7 56 (by decide)
 | 1,_=>exact j7 48 (by decide)
 | 2,_=>exact j7 40 (by decide)
 | 3,_=>exact j7 32 (by decide)
 | 4,_=>exact j7 24 (by decide)
 | 5,_=>exact j7 16 (by decide)
 | 6,_=>exact j7 8 (by decide)
 | 7,_=>exact j7 0 (by decide)
 | j+8,h=>exact absurd h (by omega)
theorem jc{B:List HP}(n:Nat):ar adE 41 [.int .i64 (n:Int)] B fun r hs=> ∃o:V1,r=o.v∧hs=B++[al true o 8 (ew n)]:=
 j5 (M4 n) (by simp)
open Go Go.RX Go.Proofs Go.RX.Sh Go.RX.Fg Go.RX.Fj Go.RX.Fk
theorem bU.front{A a b:List HP}(h:bU a b):bU (A++a) (A++b):=by
 refine bU.trans (bU.perm List.perm_append_comm) (bU.trans ?_ (bU.perm List.perm_append_comm));intro w Fs o;rw [List.append_assoc]at o ⊢;exact h w (A++Fs) o
theorem bU.AP{b n:Nat}{T:Nat→Nat}(hn:n≤140737488355328):bU [aq b true (aj .u8 n fun j=>((T j:Nat):Int))] [al true ⟨.slice (some ⟨b,0,none⟩) n n,rfl⟩ n T]:=by
 rintro w Fs ⟨S,hS⟩;have h0:=(hS.at_ 0 _ rfl).1;have cr:=oQ (t:=5) h0 (by rw [aF];unfold maxLen;omega);rw [aF]at cr;refine bG.weaken (a:=[aq b true (aj .u8 n fun j=>((T j:Nat):Int))]) hS 0 _ _ rfl (fun _=>rfl) (fun k=>k=b) (fun k hk=>?_) ⟨?_,fun k=>?_⟩
 ·exact(h0.1 k).2 hk
 ·simp only [if_true];rw [gl];exact cr
 ·simp [Value.ownBlock,eq_comm]
theorem EW(b1:Nat)(w0 w1:V1)(n0 n1:Nat)(T0 T1 M:Nat→Nat)(hM: ∀j,M j<256)(Cs: ∀j,j<n0→T0 j=M (0+j))(Ct: ∀j,j<n1→T1 j=M (n0+j))(hl:n0+n1+300≤140737488355328):ar adE 54 [.slice (some ⟨b1,0,none⟩) 2 2] [aq b1 true [w0.v,w1.v],al false w0 n0 T0,al false w1 n1 T1] fun r hs=>r=(Value.agg (aj .u8 32 fun j=>((gF (n0+n1) M j:Nat):Int)).toArray)∧hs=[aq b1 true [w0.v,w1.v],al false w0 n0 T0,al false w1 n1 T1]:=by
 refine ar.post (p:=fun r hs=>r=(Value.agg (aj .u8 32 fun j=>((gF (n0+n1) M j:Nat):Int)).toArray)∧hs[4]? =some (aq b1 true [w0.v,w1.v])∧hs[5]? =some (al false w0 n0 T0)∧hs[6]? =some (al false w1 n1 T1)) ?_ ?_;rotate_left
 ·rintro r hs ⟨rfl,g0,g1,g2⟩;refine⟨_,bU.idx [4,5,6] (by decide) ?_,rfl,rfl⟩;intro m u hu
  match m,hu with
  | 0,hu=>cases hu;exact⟨4,rfl,g0⟩
  | 1,hu=>cases hu;exact⟨5,rfl,g1⟩
  | 2,hu=>cases hu;exact⟨6,rfl,g2⟩
  | m+3,hu=>simp at hu
 refine Dh _ (n0:Int) (n1:Int) (fun j=>(T0 j:Nat)) (fun j=>(T1 j:Nat)) w0 w1 b1 ?_;unfold wV;intro b0;refine⟨_,iI,?_⟩;rintro x hs ⟨b,vh,vk,A,B,rfl,rfl,hA,hB⟩;refine⟨b,vh,vk,A,B,rfl,rfl,?_⟩;refine⟨_,Cr b b1 vh vk w0 w1 n0 n1 T0 T1 M hM Cs Ct A B hA hB hl,?_⟩;rintro x hs ⟨o,rfl,rfl⟩;refine⟨o,fun j=>(gF (n0+n1) M j:Nat),rfl,rfl,by rw [adG,List.append_nil],rfl,rfl,rfl⟩
theorem Cv(b1:Nat)(w0 w1:V1)(n0 n1:Nat)(T0 T1 M:Nat→Nat)(hM: ∀j,M j<256)(Cs: ∀j,j<n0→T0 j=M (0+j))(Ct: ∀j,j<n1→T1 j=M (n0+j))(hl:n0+n1+300≤140737488355328):ar adE 48 [.int .u8 1,.slice (some ⟨b1,0,none⟩) 2 2] [aq b1 true [w0.v,w1.v],al false w0 n0 T0,al false w1 n1 T1] fun r hs=> ∃o:V1,r=o.v∧hs=[aq b1 true [w0.v,w1.v],al false w0 n0 T0,al false w1 n1 T1,al true o 32 (gF (n0+n1) M)]:=by
 refine ar.post (p:=fun r hs=> ∃b0:Nat,r= .slice (some ⟨b0,0,none⟩) 32 32∧hs=[aq b1 true [w0.v,w1.v],al false w0 n0 T0,al false w1 n1 T1,aq b0 true (aj .u8 32 fun j=>((gF (n0+n1) M j:Nat):Int))]) ?_ ?_;rotate_left
 ·rintro r hs ⟨b0,rfl,rfl⟩;exact⟨_,bU.front (A:=[aq b1 true [w0.v,w1.v],al false w0 n0 T0,al false w1 n1 T1]) (bU.AP (by decide)),⟨_,rfl⟩,rfl,rfl⟩
 refine z_ _ (n0:Int) (n1:Int) (fun j=>(T0 j:Nat)) (fun j=>(T1 j:Nat)) w0 w1 b1 ?_;unfold tq;refine⟨_,EW b1 w0 w1 n0 n1 T0 T1 M hM Cs Ct hl,?_⟩;rintro x hs ⟨rfl,rfl⟩;refine⟨fun j=>(gF (n0+n1) M j:Nat),by rw [adG,List.append_nil],rfl,?_⟩;intro b0;exact⟨b0,rfl,by rw [adG,List.append_nil];rfl⟩
theorem Cw{B:List HP}(b1:Nat){x0 x1:Value}(h0:x0.oneCell'=true)(h1:x1.oneCell'=true)(n0 n1:Nat)(T0 T1 M:Nat→Nat)(hM: ∀j,M j<256)(Cs: ∀j,j<n0→T0 j=M (0+j))(Ct: ∀j,j<n1→T1 j=M (n0+j))(hl:n0+n1+300≤140737488355328)(g0:ay B (aL x0 n0 T0))(g1:ay B (aL x1 n1 T1)):
  ar adE 48 [.int .u8 1,.slice (some ⟨b1,0,none⟩) 2 2] ([aq b1 true [x0,x1]]++B) fun r hs=> ∃o:V1,r=o.v∧hs=[aq b1 true [x0,x1]]++B++[al true o 32 (gF (n0+n1) M)]:=by
 have hm:ar adE 48 [.int .u8 1,.slice (some ⟨b1,0,none⟩) 2 2] ([aq b1 true [x0,x1]]++[aL x0 n0 T0,aL x1 n1 T1]) fun r hs=> ∃nw,(∃o:V1,r=o.v∧nw=[al true o 32 (gF (n0+n1) M)])∧hs=[aq b1 true [x0,x1]]++nw:=by
  refine ar.post (Cv b1 ⟨x0,h0⟩ ⟨x1,h1⟩ n0 n1 T0 T1 M hM Cs Ct hl) ?_;rintro r hs ⟨o,hr,rfl⟩;exact⟨_,bU.sub (by repeat (first | exact List.Sublist.slnil | apply List.Sublist.cons_cons | apply List.Sublist.cons)),_,⟨o,hr,rfl⟩,rfl⟩
 refine ar.post (ar.iV hm ?_ ?_ ?_) ?_
 ·intro h hh;simp only [adW,adP,or_false]at hh;subst hh;rfl
 ·rintro v nw ⟨o,_,rfl⟩ h hh;simp only [adW,adP,or_false]at hh;subst hh;rfl
 ·intro h hh;simp only [adW,adP,or_false]at hh;rcases hh with rfl | rfl
  ·exact g0
  ·exact g1
 ·rintro r hs ⟨nw,⟨o,hr,rfl⟩,rfl⟩;exact⟨_,bU.refl _,o,hr,rfl⟩
theorem EX(vl:V1)(w0 w1 w2 w3 w4 w5 w6:V1)(n0 n1 n2 n3 n4 n5 n6:Nat)(T0 T1 T2 T3 T4 T5 T6 M:Nat→Nat)(hM: ∀j,M j<256)(Cs: ∀j,j<n0→T0 j=M (0+j))(Ct: ∀j,j<n1→T1 j=M (n0+j))(MZ: ∀j,j<n2→T2 j=M (n0+n1+j))(M0: ∀j,j<n3→T3 j=M (n0+n1+n2+j))(M1: ∀j,j<n4→T4 j=M (n0+n1+n2+n3+j))(M3: ∀j,j<n5→T5 j=M (n0+n1+n2+n3+n4+j))(SR: ∀j,j<n6→T6 j=M (n0+n1+n2+n3+n4+n5+j))(hl:n0+n1+n2+n3+n4+n5+n6+300≤140737488355328):ar adE 54 [vl.v] [au true 23 1 vl.v 7 [w0.v,w1.v,w2.v,w3.v,w4.v,w5.v,w6.v],al false w0 n0 T0,al false w1 n1 T1,al false w2 n2 T2,al false w3 n3 T3,al false w4 n4 T4,al false w5 n5 T5,al false w6 n6 T6] fun r hs=>r=(Value.agg (aj .u8 32 fun j=>((gF (n0+n1+n2+n3+n4+n5+n6) M j:Nat):Int)).toArray)∧hs=[au true 23 1 vl.v 7 [w0.v,w1.v,w2.v,w3.v,w4.v,w5.v,w6.v],al false w0 n0 T0,al false w1 n1 T1,al false w2 n2 T2,al false w3 n3 T3,al false w4 n4 T4,al false w5 n5 T5,al false w6 n6 T6]:=by
 refine ar.post (p:=fun r hs=>r=(Value.agg (aj .u8 32 fun j=>((gF (n0+n1+n2+n3+n4+n5+n6) M j:Nat):Int)).toArray)∧hs[9]? =some (au true 23 1 vl.v 7 [w0.v,w1.v,w2.v,w3.v,w4.v,w5.v,w6.v])∧hs[10]? =some (al false w0 n0 T0)∧hs[11]? =some (al false w1 n1 T1)∧hs[0]? =some (al false w2 n2 T2)∧hs[1]? =some (al false w3 n3 T3)∧hs[2]? =some (al false w4 n4 T4)∧hs[3]? =some (al false w5 n5 T5)∧hs[4]? =some (al false w6 n6 T6)) ?_ ?_;rotate_left
 ·rintro r hs ⟨rfl,g0,g1,g2,g3,g4,g5,g6,g7⟩;refine⟨_,bU.idx [9,10,11,0,1,2,3,4] (by decide) ?_,rfl,rfl⟩;intro m u hu
  match m,hu with
  | 0,hu=>cases hu;exact⟨9,rfl,g0⟩
  | 1,hu=>cases hu;exact⟨10,rfl,g1⟩
  | 2,hu=>cases hu;exact⟨11,rfl,g2⟩
  | 3,hu=>cases hu;exact⟨0,rfl,g3⟩
  | 4,hu=>cases hu;exact⟨1,rfl,g4⟩
  | 5,hu=>cases hu;exact⟨2,rfl,g5⟩
  | 6,hu=>cases hu;exact⟨3,rfl,g6⟩
  | 7,hu=>cases hu;exact⟨4,rfl,g7⟩
  | m+8,hu=>simp at hu
 refine La _ (n0:Int) (n1:Int) (n2:Int) (n3:Int) (n4:Int) (n5:Int) (n6:Int) (fun j=>(T0 j:Nat)) (fun j=>(T1 j:Nat)) (fun j=>(T2 j:Nat)) (fun j=>(T3 j:Nat)) (fun j=>(T4 j:Nat)) (fun j=>(T5 j:Nat)) (fun j=>(T6 j:Nat)) vl w0 w1 w2 w3 w4 w5 w6 ?_;unfold Di;intro b0;refine⟨_,iI,?_⟩;rintro x hs ⟨b,vh,vk,A,B,rfl,rfl,hA,hB⟩;refine⟨b,vh,vk,A,B,rfl,rfl,?_⟩;refine⟨_,Cu b vl vh vk w0 w1 w2 w3 w4 w5 w6 n0 n1 n2 n3 n4 n5 n6 T0 T1 T2 T3 T4 T5 T6 M hM Cs Ct MZ M0 M1 M3 SR A B hA hB hl,?_⟩;rintro x hs ⟨o,rfl,rfl⟩;refine⟨o,fun j=>(gF (n0+n1+n2+n3+n4+n5+n6) M j:Nat),rfl,rfl,by rw [adG,List.append_nil],rfl,rfl,rfl,rfl,rfl,rfl,rfl,rfl⟩
theorem Cx(vl:V1)(w0 w1 w2 w3 w4 w5 w6:V1)(n0 n1 n2 n3 n4 n5 n6:Nat)(T0 T1 T2 T3 T4 T5 T6 M:Nat→Nat)(hM: ∀j,M j<256)(Cs: ∀j,j<n0→T0 j=M (0+j))(Ct: ∀j,j<n1→T1 j=M (n0+j))(MZ: ∀j,j<n2→T2 j=M (n0+n1+j))(M0: ∀j,j<n3→T3 j=M (n0+n1+n2+j))(M1: ∀j,j<n4→T4 j=M (n0+n1+n2+n3+j))(M3: ∀j,j<n5→T5 j=M (n0+n1+n2+n3+n4+j))(SR: ∀j,j<n6→T6 j=M (n0+n1+n2+n3+n4+n5+j))(hl:n0+n1+n2+n3+n4+n5+n6+300≤140737488355328):ar adE 48 [.int .u8 1,vl.v] [au true 23 1 vl.v 7 [w0.v,w1.v,w2.v,w3.v,w4.v,w5.v,w6.v],al false w0 n0 T0,al false w1 n1 T1,al false w2 n2 T2,al false w3 n3 T3,al false w4 n4 T4,al false w5 n5 T5,al false w6 n6 T6] fun r hs=> ∃o:V1,r=o.v∧hs=[au true 23 1 vl.v 7 [w0.v,w1.v,w2.v,w3.v,w4.v,w5.v,w6.v],al false w0 n0 T0,al false w1 n1 T1,al false w2 n2 T2,al false w3 n3 T3,al false w4 n4 T4,al false w5 n5 T5,al false w6 n6 T6,al true o 32 (gF (n0+n1+n2+n3+n4+n5+n6) M)]:=by
 refine ar.post (p:=fun r hs=> ∃b0:Nat,r= .slice (some ⟨b0,0,none⟩) 32 32∧hs=[au true 23 1 vl.v 7 [w0.v,w1.v,w2.v,w3.v,w4.v,w5.v,w6.v],al false w0 n0 T0,al false w1 n1 T1,al false w2 n2 T2,al false w3 n3 T3,al false w4 n4 T4,al false w5 n5 T5,al false w6 n6 T6,aq b0 true (aj .u8 32 fun j=>((gF (n0+n1+n2+n3+n4+n5+n6) M j:Nat):Int))]) ?_ ?_;rotate_left
 ·rintro r hs ⟨b0,rfl,rfl⟩;exact⟨_,bU.front (A:=[au true 23 1 vl.v 7 [w0.v,w1.v,w2.v,w3.v,w4.v,w5.v,w6.v],al false w0 n0 T0,al false w1 n1 T1,al false w2 n2 T2,al false w3 n3 T3,al false w4 n4 T4,al false w5 n5 T5,al false w6 n6 T6]) (bU.AP (by decide)),⟨_,rfl⟩,rfl,rfl⟩
 refine I8 _ (n0:Int) (n1:Int) (n2:Int) (n3:Int) (n4:Int) (n5:Int) (n6:Int) (fun j=>(T0 j:Nat)) (fun j=>(T1 j:Nat)) (fun j=>(T2 j:Nat)) (fun j=>(T3 j:Nat)) (fun j=>(T4 j:Nat)) (fun j=>(T5 j:Nat)) (fun j=>(T6 j:Nat)) vl w0 w1 w2 w3 w4 w5 w6 ?_;unfold Aa;refine⟨_,EX vl w0 w1 w2 w3 w4 w5 w6 n0 n1 n2 n3 n4 n5 n6 T0 T1 T2 T3 T4 T5 T6 M hM Cs Ct MZ M0 M1 M3 SR hl,?_⟩;rintro x hs ⟨rfl,rfl⟩;refine⟨fun j=>(gF (n0+n1+n2+n3+n4+n5+n6) M j:Nat),by rw [adG,List.append_nil],rfl,?_⟩;intro b0;exact⟨b0,rfl,by rw [adG,List.append_nil];rfl⟩
theorem Cy{B:List HP}(vl:V1){x0 x1 x2 x3 x4 x5 x6:Value}(h0:x0.oneCell'=true)(h1:x1.oneCell'=true)(h2:x2.oneCell'=true)(h3:x3.oneCell'=true)(h4:x4.oneCell'=true)(h5:x5.oneCell'=true)(h6:x6.oneCell'=true)(n0 n1 n2 n3 n4 n5 n6:Nat)(T0 T1 T2 T3 T4 T5 T6 M:Nat→Nat)(hM: ∀j,M j<256)(Cs: ∀j,j<n0→T0 j=M (0+j))(Ct: ∀j,j<n1→T1 j=M (n0+j))(MZ: ∀j,j<n2→T2 j=M (n0+n1+j))(M0: ∀j,j<n3→T3 j=M (n0+n1+n2+j))(M1: ∀j,j<n4→T4 j=M (n0+n1+n2+n3+j))(M3: ∀j,j<n5→T5 j=M (n0+n1+n2+n3+n4+j))(SR: ∀j,j<n6→T6 j=M (n0+n1+n2+n3+n4+n5+j))(hl:n0+n1+n2+n3+n4+n5+n6+300≤140737488355328)(g0:ay B (aL x0 n0 T0))(g1:ay B (aL x1 n1 T1))(g2:ay B (aL x2 n2 T2))(g3:ay B (aL x3 n3 T3))(g4:ay B (aL x4 n4 T4))(g5:ay B (aL x5 n5 T5))(g6:ay B (aL x6 n6 T6)):
  ar adE 48 [.int .u8 1,vl.v] ([au true 23 1 vl.v 7 [x0,x1,x2,x3,x4,x5,x6]]++B) fun r hs=> ∃o:V1,r=o.v∧hs=[au true 23 1 vl.v 7 [x0,x1,x2,x3,x4,x5,x6]]++B++[al true o 32 (gF (n0+n1+n2+n3+n4+n5+n6) M)]:=by
 have hm:ar adE 48 [.int .u8 1,vl.v] ([au true 23 1 vl.v 7 [x0,x1,x2,x3,x4,x5,x6]]++[aL x0 n0 T0,aL x1 n1 T1,aL x2 n2 T2,aL x3 n3 T3,aL x4 n4 T4,aL x5 n5 T5,aL x6 n6 T6]) fun r hs=> ∃nw,(∃o:V1,r=o.v∧nw=[al true o 32 (gF (n0+n1+n2+n3+n4+n5+n6) M)])∧hs=[au true 23 1 vl.v 7 [x0,x1,x2,x3,x4,x5,x6]]++nw:=by
  refine ar.post (Cx vl ⟨x0,h0⟩ ⟨x1,h1⟩ ⟨x2,h2⟩ ⟨x3,h3⟩ ⟨x4,h4⟩ ⟨x5,h5⟩ ⟨x6,h6⟩ n0 n1 n2 n3 n4 n5 n6 T0 T1 T2 T3 T4 T5 T6 M hM Cs Ct MZ M0 M1 M3 SR hl) ?_;rintro r hs ⟨o,hr,rfl⟩;exact⟨_,bU.sub (by repeat (first | exact List.Sublist.slnil | apply List.Sublist.cons_cons | apply List.Sublist.cons)),_,⟨o,hr,rfl⟩,rfl⟩
 refine ar.post (ar.iV hm ?_ ?_ ?_) ?_
 ·intro h hh;simp only [adW,adP,or_false]at hh;subst hh;rfl
 ·rintro v nw ⟨o,_,rfl⟩ h hh;simp only [adW,adP,or_false]at hh;subst hh;rfl
 ·intro h hh;simp only [adW,adP,or_false]at hh;rcases hh with rfl | rfl | rfl | rfl | rfl | rfl | rfl
  ·exact g0
  ·exact g1
  ·exact g2
  ·exact g3
  ·exact g4
  ·exact g5
  ·exact g6
 ·rintro r hs ⟨nw,⟨o,hr,rfl⟩,rfl⟩;exact⟨_,bU.refl _,o,hr,rfl⟩
set_option maxHeartbeats 1000000 in
theorem GZ(b1:Nat)(w0 w1 w2 w3 w4 w5 vk:V1)(n0 n1 n2 n3 n4 n5:Nat)(T0 T1 T2 T3 T4 T5 M K:Nat→Nat)(hM: ∀j,M j<256)(hK: ∀j,K j<256)(Cs: ∀j,j<n0→T0 j=M (0+j))(Ct: ∀j,j<n1→T1 j=M (n0+j))(MZ: ∀j,j<n2→T2 j=M (n0+n1+j))(M0: ∀j,j<n3→T3 j=M (n0+n1+n2+j))(M1: ∀j,j<n4→T4 j=M (n0+n1+n2+n3+j))(M3: ∀j,j<n5→T5 j=M (n0+n1+n2+n3+n4+j))(hl:n0+n1+n2+n3+n4+n5+500≤140737488355328):
  ar adE 31 [.int .u8 1,vk.v,.slice (some ⟨b1,0,none⟩) 6 6] [aq b1 true [w0.v,w1.v,w2.v,w3.v,w4.v,w5.v],al false w0 n0 T0,al false w1 n1 T1,al false w2 n2 T2,al false w3 n3 T3,al false w4 n4 T4,al false w5 n5 T5,al false vk 32 K] fun r hs=> ∃o:V1,r=o.v∧hs=[aq b1 true [w0.v,w1.v,w2.v,w3.v,w4.v,w5.v],al true o 32 (Cq 32 K (n0+n1+n2+n3+n4+n5) M)]:=by
 refine OD _ (n0:Int) (n1:Int) (n2:Int) (n3:Int) (n4:Int) (n5:Int) (fun j=>(T0 j:Nat)) (fun j=>(T1 j:Nat)) (fun j=>(T2 j:Nat)) (fun j=>(T3 j:Nat)) (fun j=>(T4 j:Nat)) (fun j=>(T5 j:Nat)) (fun j=>(K j:Nat)) w0 w1 w2 w3 w4 w5 vk b1 ?_;unfold HG;have Is:=fun j=>Cp hK (w:=54) (by decide) 32 j
 have yx:=fun j=>Cp hK (w:=92) (by decide) 32 j
 refine⟨_,AO (B:=[al false vk 32 K]) vk.one K hK 54 (by decide) (ay.get 0 rfl),?_⟩;rintro x hs ⟨v7,rfl,rfl⟩;refine⟨v7,64,fun j=>(j6 32 K 54 j:Nat),rfl,rfl,?_⟩;intro b2 v8;have e1:gF (64+n0+n1+n2+n3+n4+n5) (ey 64 (j6 32 K 54) M)=gF (64+(n0+n1+n2+n3+n4+n5)) (ey 64 (j6 32 K 54) M):=by rw [show 64+n0+n1+n2+n3+n4+n5=64+(n0+n1+n2+n3+n4+n5) by omega]
 refine⟨_,Cy (B:=[al true v7 64 (j6 32 K 54),al false w0 n0 T0,al false w1 n1 T1,al false w2 n2 T2,al false w3 n3 T3,al false w4 n4 T4,al false w5 n5 T5]) v8 v7.one w0.one w1.one w2.one w3.one w4.one w5.one 64 n0 n1 n2 n3 n4 n5 (j6 32 K 54) T0 T1 T2 T3 T4 T5 (ey 64 (j6 32 K 54) M) (jb Is hM 64) (fun j hj=>by rw [Nat.zero_add,fB hj]) (fun j hj=>by rw [Cs j hj];rw [show 64+j=64+(0+j) by omega,bD]) (fun j hj=>by rw [Ct j hj];rw [show 64+n0+j=64+(n0+j) by omega,bD]) (fun j hj=>by rw [MZ j hj];rw [show 64+n0+n1+j=64+(n0+n1+j) by omega,bD]) (fun j hj=>by rw [M0 j hj];rw [show 64+n0+n1+n2+j=64+(n0+n1+n2+j) by omega,bD]) (fun j hj=>by rw [M1 j hj];rw [show 64+n0+n1+n2+n3+j=64+(n0+n1+n2+n3+j) by omega,bD]) (fun j hj=>by rw [M3 j hj];rw [show 64+n0+n1+n2+n3+n4+j=64+(n0+n1+n2+n3+n4+j) by omega,bD]) (by omega) (ay.get 0 rfl) (ay.get 1 rfl) (ay.get 2 rfl) (ay.get 3 rfl) (ay.get 4 rfl) (ay.get 5 rfl) (ay.get 6 rfl),?_⟩;rintro x hs ⟨v9,rfl,rfl⟩;rw [e1];refine⟨v9,32,fun j=>(gF (64+(n0+n1+n2+n3+n4+n5)) (ey 64 (j6 32 K 54) M) j:Nat),rfl,rfl,?_⟩;refine⟨_,AO (B:=[al false vk 32 K]) vk.one K hK 92 (by decide) (ay.get 0 rfl),?_⟩;rintro x hs ⟨v10,rfl,rfl⟩;refine⟨v10,64,fun j=>(j6 32 K 92 j:Nat),rfl,rfl,?_⟩;intro b3;refine⟨_,Cw (B:=[al true v10 64 (j6 32 K 92),al true v9 32 (gF (64+(n0+n1+n2+n3+n4+n5)) (ey 64 (j6 32 K 54) M))]) b3 v10.one v9.one 64 32 (j6 32 K 92) (gF (64+(n0+n1+n2+n3+n4+n5)) (ey 64 (j6 32 K 54) M)) (ey 64 (j6 32 K 92) (gF (64+(n0+n1+n2+n3+n4+n5)) (ey 64 (j6 32 K 54) M))) (jb yx (fun j=>Iy _ _ j) 64) (fun j hj=>by rw [Nat.zero_add,fB hj]) (fun j hj=>by rw [bD]) (by omega) (ay.get 0 rfl) (ay.get 1 rfl),?_⟩;rintro x hs ⟨v11,rfl,rfl⟩;exact⟨v11,32,fun j=>(Cq 32 K (n0+n1+n2+n3+n4+n5) M j:Nat),rfl,rfl,v11,rfl,rfl⟩
theorem G0{B:List HP}(b1:Nat){x0 x1 x2 x3 x4 x5 xk:Value}(h0:x0.oneCell'=true)(h1:x1.oneCell'=true)(h2:x2.oneCell'=true)(h3:x3.oneCell'=true)(h4:x4.oneCell'=true)(h5:x5.oneCell'=true)(hk:xk.oneCell'=true)(n0 n1 n2 n3 n4 n5:Nat)(T0 T1 T2 T3 T4 T5 M K:Nat→Nat)(hM: ∀j,M j<256)(hK: ∀j,K j<256)(Cs: ∀j,j<n0→T0 j=M (0+j))(Ct: ∀j,j<n1→T1 j=M (n0+j))(MZ: ∀j,j<n2→T2 j=M (n0+n1+j))(M0: ∀j,j<n3→T3 j=M (n0+n1+n2+j))(M1: ∀j,j<n4→T4 j=M (n0+n1+n2+n3+j))(M3: ∀j,j<n5→T5 j=M (n0+n1+n2+n3+n4+j))(hl:n0+n1+n2+n3+n4+n5+500≤140737488355328)(g0:ay B (aL x0 n0 T0))(g1:ay B (aL x1 n1 T1))(g2:ay B (aL x2 n2 T2))(g3:ay B (aL x3 n3 T3))(g4:ay B (aL x4 n4 T4))(g5:ay B (aL x5 n5 T5))(gk:ay B (aL xk 32 K)):
  ar adE 31 [.int .u8 1,xk,.slice (some ⟨b1,0,none⟩) 6 6] ([aq b1 true [x0,x1,x2,x3,x4,x5]]++B) fun r hs=> ∃o:V1,r=o.v∧hs=[aq b1 true [x0,x1,x2,x3,x4,x5]]++B++[al true o 32 (Cq 32 K (n0+n1+n2+n3+n4+n5) M)]:=by
 have hm:ar adE 31 [.int .u8 1,xk,.slice (some ⟨b1,0,none⟩) 6 6] ([aq b1 true [x0,x1,x2,x3,x4,x5]]++[aL x0 n0 T0,aL x1 n1 T1,aL x2 n2 T2,aL x3 n3 T3,aL x4 n4 T4,aL x5 n5 T5,aL xk 32 K]) fun r hs=> ∃nw,(∃o:V1,r=o.v∧nw=[al true o 32 (Cq 32 K (n0+n1+n2+n3+n4+n5) M)])∧hs=[aq b1 true [x0,x1,x2,x3,x4,x5]]++nw:=by
  refine ar.post (GZ b1 ⟨x0,h0⟩ ⟨x1,h1⟩ ⟨x2,h2⟩ ⟨x3,h3⟩ ⟨x4,h4⟩ ⟨x5,h5⟩ ⟨xk,hk⟩ n0 n1 n2 n3 n4 n5 T0 T1 T2 T3 T4 T5 M K hM hK Cs Ct MZ M0 M1 M3 hl) ?_;rintro r hs ⟨o,hr,rfl⟩;exact⟨_,bU.refl _,_,⟨o,hr,rfl⟩,rfl⟩
 refine ar.post (ar.iV hm ?_ ?_ ?_) ?_
 ·intro h hh;simp only [adW,adP,or_false]at hh;subst hh;rfl
 ·rintro v nw ⟨o,_,rfl⟩ h hh;simp only [adW,adP,or_false]at hh;subst hh;rfl
 ·intro h hh;simp only [adW,adP,or_false]at hh;rcases hh with rfl | rfl | rfl | rfl | rfl | rfl | rfl
  ·exact g0
  ·exact g1
  ·exact g2
  ·exact g3
  ·exact g4
  ·exact g5
  ·exact gk
 ·rintro r hs ⟨nw,⟨o,hr,rfl⟩,rfl⟩;exact⟨_,bU.refl _,o,hr,rfl⟩
end Go.RX.Fm
