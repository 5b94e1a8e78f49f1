/- Sums by lengths. -/
import Derived.Test.YtmgbbbmdbpbeeaaFqK
import Derived.Test.YtmgbbbmdbpbeeaaM37
import Derived.Test.YtmgbbbmdbpbeeaaM40
open Go.Proofs.Try renaming prog → adE
open List renaming append_eq → adG
namespace Go.RX.Fq
open Go Go.RX Go.Proofs Go.RX.Sh Go.RX.Fg Go.RX.Fj Go.RX.Fk Go.RX.Fm
theorem pR{b n:Nat}{N:Nat→Int}(hn:n≤140737488355328):bU [aq b true (aj .u8 n N)] [bn true ⟨.slice (some ⟨b,0,none⟩) n n,rfl⟩ n N]:=by
 rintro w Fs ⟨S,hS⟩;have h0:=(hS.at_ 0 _ rfl).1;have cr:=oQ (t:=5) h0 (by rw [aF];unfold maxLen;omega);rw [aF]at cr;refine bG.weaken (a:=[aq b true (aj .u8 n N)]) hS 0 _ _ rfl (fun _=>rfl) (fun k=>k=b) (fun k hk=>?_) ⟨?_,fun k=>?_⟩
 ·exact(h0.1 k).2 hk
 ·simp only [if_true];rw [gl];exact cr
 ·simp [Value.ownBlock,eq_comm]
theorem Aj{b n:Nat}{N:Nat→Int}(hn:n≤140737488355328):bU [aq b true (aj .u64 n N)] [dj ⟨.slice (some ⟨b,0,none⟩) n n,rfl⟩ n N]:=by
 rintro w Fs ⟨S,hS⟩;have h0:=(hS.at_ 0 _ rfl).1;have cr:=oQ (t:=24) h0 (by rw [aF];unfold maxLen;omega);rw [aF]at cr;refine bG.weaken (a:=[aq b true (aj .u64 n N)]) hS 0 _ _ rfl (fun _=>rfl) (fun k=>k=b) (fun k hk=>?_) ⟨?_,fun k=>?_⟩
 ·exact(h0.1 k).2 hk
 ·simp only [if_true];rw [gl];exact cr
 ·simp [Value.ownBlock,eq_comm]
def Lk:List Int:=[7640891576956012808,13503953896175478587,4354685564936845355,11912009170470909681,5840696475078001361,11170449401992604703,2270897969802886507,6620516959819538809]
def F6:List Int:=[4794697086780616226,8158064640168781261,13096744586834688815,16840607885511220156,4131703408338449720,6480981068601479193,10538285296894168987,12329834152419229976,15566598209576043074,1334009975649890238,2608012711638119052,6128411473006802146,8268148722764581231,9286055187155687089,11230858885718282805,13951009754708518548,16472876342353939154,17275323862435702243,1135362057144423861,2597628984639134821,3308224258029322869,5365058923640841347,6679025012923562964,8573033837759648693,10970295158949994411,12119686244451234320,12683024718118986047,13788192230050041572,14330467153632333762,15395433587784984357,489312712824947311,1452737877330783856,2861767655752347644,3322285676063803686,5560940570517711597,5996557281743188959,7280758554555802590,8532644243296465576,9350256976987008742,10552545826968843579,11727347734174303076,12113106623233404929,14000437183269869457,14369950271660146224,15101387698204529176,15463397548674623760,17586052441742319658,1182934255886127544,1847814050463011016,2177327727835720531,2830643537854262169,3796741975233480872,4115178125766777443,5681478168544905931,6601373596472566643,7507060721942968483,8399075790359081724,8693463985226723168,9568029438360202098,10144078919501101548,10430055236837252648,11840083180663258601,13761210420658862357,14299343276471374635,14566680578165727644,15097957966210449927,16922976911328602910,17689382322260857208,500013540394364858,748580250866718886,1242879168328830382,1977374033974150939,2944078676154940804,3659926193048069267,4368137639120453308,4836135668995329356,5532061633213252278,6448918945643986474,6902733635092675308,7801388544844847127]
theorem xi:ar adE 62 [] [] fun r hs=> ∃(b:Nat) (vh vk:V1) (A B:Nat→Int),r= .pointer (some ⟨b,0,none⟩)∧hs=[mJ b vh vk,dj vh 8 A,dj vk 80 B]:=by
 refine ar.post (p:=fun r hs=> ∃b0 b1 b2:Nat,r= .pointer (some ⟨b2,0,none⟩)∧hs=[aq b0 true (aj .u64 8 fun j=>Lk.getD j 0),aq b1 true (aj .u64 80 fun j=>F6.getD j 0),mJ b2 ⟨.slice (some ⟨b0,0,none⟩) 8 8,rfl⟩ ⟨.slice (some ⟨b1,0,none⟩) 80 80,rfl⟩]) ?_ ?_;rotate_left
 ·rintro r hs ⟨b0,b1,b2,rfl,rfl⟩;refine⟨_,?_,b2,⟨.slice (some ⟨b0,0,none⟩) 8 8,rfl⟩,⟨.slice (some ⟨b1,0,none⟩) 80 80,rfl⟩,fun j=>Lk.getD j 0,fun j=>F6.getD j 0,rfl,rfl⟩;refine bU.trans (bU.perm (List.reverse_perm _).symm) ?_;refine bU.trans (bU.front (A:=[mJ b2 ⟨.slice (some ⟨b0,0,none⟩) 8 8,rfl⟩ ⟨.slice (some ⟨b1,0,none⟩) 80 80,rfl⟩,aq b1 true (aj .u64 80 fun j=>F6.getD j 0)]) (Aj (by decide))) ?_;refine bU.trans (bU.perm (List.Perm.cons _ (List.Perm.swap _ _ _))) ?_;exact bU.front (A:=[mJ b2 ⟨.slice (some ⟨b0,0,none⟩) 8 8,rfl⟩ ⟨.slice (some ⟨b1,0,none⟩) 80 80,rfl⟩,dj ⟨.slice (some ⟨b0,0,none⟩) 8 8,rfl⟩ 8 fun j=>Lk.getD j 0]) (Aj (by decide))
 refine OH _ ?_;unfold HJ;intro b0 b1 b2;exact⟨b0,b1,b2,rfl,by kernel_rfl⟩
theorem DA(b1:Nat)(w0 w1:V1)(n0 n1:Nat)(T0 T1:Nat→Int)(hl:n0+n1+600≤140737488355328):ar adE 54 [.slice (some ⟨b1,0,none⟩) 2 2] [aq b1 true [w0.v,w1.v],bn false w0 n0 T0,bn false w1 n1 T1] fun r hs=> ∃N:Nat→Int,fD N∧r=(Value.agg (aj .u8 32 N).toArray)∧hs=[aq b1 true [w0.v,w1.v],bn false w0 n0 T0,bn false w1 n1 T1]:=by
 refine ar.post (p:=fun r hs=> ∃N:Nat→Int,fD N∧r=(Value.agg (aj .u8 32 N).toArray)∧hs[4]? =some (aq b1 true [w0.v,w1.v])∧hs[5]? =some (bn false w0 n0 T0)∧hs[6]? =some (bn false w1 n1 T1)) ?_ ?_;rotate_left
 ·rintro r hs ⟨N,hN,rfl,g0,g1,g2⟩;refine⟨_,bU.idx [4,5,6] (by decide) ?_,N,hN,rfl,rfl⟩;intro m u hu
  match m,hu with
  | 0,hu=>cases hu;exact⟨4,rfl,g0⟩
  | 1,hu=>cases hu;exact⟨5,rfl,g1⟩
  | 2,hu=>cases hu;exact⟨6,rfl,g2⟩
  | m+3,hu=>simp at hu
 refine Fm.Dh _ (n0:Int) (n1:Int) T0 T1 w0 w1 b1 ?_;unfold Fm.wV;intro b0;refine⟨_,Fm.iI,?_⟩;rintro x hs ⟨b,vh,vk,A,B,rfl,rfl,_,_⟩;refine⟨b,vh,vk,A,B,rfl,rfl,?_⟩;refine⟨_,Bl b b1 vh vk w0 w1 n0 n1 T0 T1 A B hl,?_⟩;rintro x hs ⟨o,N,hN,rfl,rfl⟩;exact⟨o,N,rfl,rfl,N,hN,by rw [adG,List.append_nil],rfl,rfl,rfl⟩
theorem Bm(b1:Nat)(w0 w1:V1)(n0 n1:Nat)(T0 T1:Nat→Int)(hl:n0+n1+600≤140737488355328):ar adE 48 [.int .u8 1,.slice (some ⟨b1,0,none⟩) 2 2] [aq b1 true [w0.v,w1.v],bn false w0 n0 T0,bn false w1 n1 T1] fun r hs=> ∃(o:V1) (N:Nat→Int),fD N∧r=o.v∧hs=[aq b1 true [w0.v,w1.v],bn false w0 n0 T0,bn false w1 n1 T1]++[bn true o 32 N]:=by
 refine ar.post (p:=fun r hs=> ∃(b0:Nat) (N:Nat→Int),fD N∧r= .slice (some ⟨b0,0,none⟩) 32 32∧hs=[aq b1 true [w0.v,w1.v],bn false w0 n0 T0,bn false w1 n1 T1]++[aq b0 true (aj .u8 32 N)]) ?_ ?_;rotate_left
 ·rintro r hs ⟨b0,N,hN,rfl,rfl⟩;exact⟨_,bU.front (A:=[aq b1 true [w0.v,w1.v],bn false w0 n0 T0,bn false w1 n1 T1]) (pR (by decide)),⟨_,rfl⟩,N,hN,rfl,rfl⟩
 refine Fm.z_ _ (n0:Int) (n1:Int) T0 T1 w0 w1 b1 ?_;unfold Fm.tq;refine⟨_,DA b1 w0 w1 n0 n1 T0 T1 hl,?_⟩;rintro x hs ⟨N,hN,rfl,rfl⟩;refine⟨N,by rw [adG,List.append_nil],rfl,fun b0=>⟨b0,N,hN,rfl,?_⟩⟩;rw [adG,List.append_nil];rfl
theorem DB(vl:V1)(w0 w1:V1)(n0 n1:Nat)(T0 T1:Nat→Int)(hl:n0+n1+600≤140737488355328):ar adE 54 [vl.v] [au true 23 1 vl.v 2 [w0.v,w1.v],bn false w0 n0 T0,bn false w1 n1 T1] fun r hs=> ∃N:Nat→Int,fD N∧r=(Value.agg (aj .u8 32 N).toArray)∧hs=[au true 23 1 vl.v 2 [w0.v,w1.v],bn false w0 n0 T0,bn false w1 n1 T1]:=by
 refine ar.post (p:=fun r hs=> ∃N:Nat→Int,fD N∧r=(Value.agg (aj .u8 32 N).toArray)∧hs[4]? =some (au true 23 1 vl.v 2 [w0.v,w1.v])∧hs[5]? =some (bn false w0 n0 T0)∧hs[6]? =some (bn false w1 n1 T1)) ?_ ?_;rotate_left
 ·rintro r hs ⟨N,hN,rfl,g0,g1,g2⟩;refine⟨_,bU.idx [4,5,6] (by decide) ?_,N,hN,rfl,rfl⟩;intro m u hu
  match m,hu with
  | 0,hu=>cases hu;exact⟨4,rfl,g0⟩
  | 1,hu=>cases hu;exact⟨5,rfl,g1⟩
  | 2,hu=>cases hu;exact⟨6,rfl,g2⟩
  | m+3,hu=>simp at hu
 refine FY _ (n0:Int) (n1:Int) T0 T1 vl w0 w1 ?_;unfold w7;intro b0;refine⟨_,Fm.iI,?_⟩;rintro x hs ⟨b,vh,vk,A,B,rfl,rfl,_,_⟩;refine⟨b,vh,vk,A,B,rfl,rfl,?_⟩;refine⟨_,Bn b vl vh vk w0 w1 n0 n1 T0 T1 A B hl,?_⟩;rintro x hs ⟨o,N,hN,rfl,rfl⟩;exact⟨o,N,rfl,rfl,N,hN,by rw [adG,List.append_nil],rfl,rfl,rfl⟩
theorem Bo(vl:V1)(w0 w1:V1)(n0 n1:Nat)(T0 T1:Nat→Int)(hl:n0+n1+600≤140737488355328):ar adE 48 [.int .u8 1,vl.v] [au true 23 1 vl.v 2 [w0.v,w1.v],bn false w0 n0 T0,bn false w1 n1 T1] fun r hs=> ∃(o:V1) (N:Nat→Int),fD N∧r=o.v∧hs=[au true 23 1 vl.v 2 [w0.v,w1.v],bn false w0 n0 T0,bn false w1 n1 T1]++[bn true o 32 N]:=by
 refine ar.post (p:=fun r hs=> ∃(b0:Nat) (N:Nat→Int),fD N∧r= .slice (some ⟨b0,0,none⟩) 32 32∧hs=[au true 23 1 vl.v 2 [w0.v,w1.v],bn false w0 n0 T0,bn false w1 n1 T1]++[aq b0 true (aj .u8 32 N)]) ?_ ?_;rotate_left
 ·rintro r hs ⟨b0,N,hN,rfl,rfl⟩;exact⟨_,bU.front (A:=[au true 23 1 vl.v 2 [w0.v,w1.v],bn false w0 n0 T0,bn false w1 n1 T1]) (pR (by decide)),⟨_,rfl⟩,N,hN,rfl,rfl⟩
 refine Dm _ (n0:Int) (n1:Int) T0 T1 vl w0 w1 ?_;unfold uy;refine⟨_,DB vl w0 w1 n0 n1 T0 T1 hl,?_⟩;rintro x hs ⟨N,hN,rfl,rfl⟩;refine⟨N,by rw [adG,List.append_nil],rfl,fun b0=>⟨b0,N,hN,rfl,?_⟩⟩;rw [adG,List.append_nil];rfl
theorem DC(vl:V1)(w0 w1 w2 w3:V1)(n0 n1 n2 n3:Nat)(T0 T1 T2 T3:Nat→Int)(hl:n0+n1+n2+n3+600≤140737488355328):ar adE 54 [vl.v] [au true 23 1 vl.v 4 [w0.v,w1.v,w2.v,w3.v],bn false w0 n0 T0,bn false w1 n1 T1,bn false w2 n2 T2,bn false w3 n3 T3] fun r hs=> ∃N:Nat→Int,fD N∧r=(Value.agg (aj .u8 32 N).toArray)∧hs=[au true 23 1 vl.v 4 [w0.v,w1.v,w2.v,w3.v],bn false w0 n0 T0,bn false w1 n1 T1,bn false w2 n2 T2,bn false w3 n3 T3]:=by
 refine ar.post (p:=fun r hs=> ∃N:Nat→Int,fD N∧r=(Value.agg (aj .u8 32 N).toArray)∧hs[6]? =some (au true 23 1 vl.v 4 [w0.v,w1.v,w2.v,w3.v])∧hs[7]? =some (bn false w0 n0 T0)∧hs[8]? =some (bn false w1 n1 T1)∧hs[0]? =some (bn false w2 n2 T2)∧hs[1]? =some (bn false w3 n3 T3)) ?_ ?_;rotate_left
 ·rintro r hs ⟨N,hN,rfl,g0,g1,g2,g3,g4⟩;refine⟨_,bU.idx [6,7,8,0,1] (by decide) ?_,N,hN,rfl,rfl⟩;intro m u hu
  match m,hu with
  | 0,hu=>cases hu;exact⟨6,rfl,g0⟩
  | 1,hu=>cases hu;exact⟨7,rfl,g1⟩
  | 2,hu=>cases hu;exact⟨8,rfl,g2⟩
  | 3,hu=>cases hu;exact⟨0,rfl,g3⟩
  | 4,hu=>cases hu;exact⟨1,rfl,g4⟩
  | m+5,hu=>simp at hu
 refine FZ _ (n0:Int) (n1:Int) (n2:Int) (n3:Int) T0 T1 T2 T3 vl w0 w1 w2 w3 ?_;unfold w9;intro b0;refine⟨_,Fm.iI,?_⟩;rintro x hs ⟨b,vh,vk,A,B,rfl,rfl,_,_⟩;refine⟨b,vh,vk,A,B,rfl,rfl,?_⟩;refine⟨_,Bp b vl vh vk w0 w1 w2 w3 n0 n1 n2 n3 T0 T1 T2 T3 A B hl,?_⟩;rintro x hs ⟨o,N,hN,rfl,rfl⟩;exact⟨o,N,rfl,rfl,N,hN,by rw [adG,List.append_nil],rfl,rfl,rfl,rfl,rfl⟩
theorem Bq(vl:V1)(w0 w1 w2 w3:V1)(n0 n1 n2 n3:Nat)(T0 T1 T2 T3:Nat→Int)(hl:n0+n1+n2+n3+600≤140737488355328):ar adE 48 [.int .u8 1,vl.v] [au true 23 1 vl.v 4 [w0.v,w1.v,w2.v,w3.v],bn false w0 n0 T0,bn false w1 n1 T1,bn false w2 n2 T2,bn false w3 n3 T3] fun r hs=> ∃(o:V1) (N:Nat→Int),fD N∧r=o.v∧hs=[au true 23 1 vl.v 4 [w0.v,w1.v,w2.v,w3.v],bn false w0 n0 T0,bn false w1 n1 T1,bn false w2 n2 T2,bn false w3 n3 T3]++[bn true o 32 N]:=by
 refine ar.post (p:=fun r hs=> ∃(b0:Nat) (N:Nat→Int),fD N∧r= .slice (some ⟨b0,0,none⟩) 32 32∧hs=[au true 23 1 vl.v 4 [w0.v,w1.v,w2.v,w3.v],bn false w0 n0 T0,bn false w1 n1 T1,bn false w2 n2 T2,bn false w3 n3 T3]++[aq b0 true (aj .u8 32 N)]) ?_ ?_;rotate_left
 ·rintro r hs ⟨b0,N,hN,rfl,rfl⟩;exact⟨_,bU.front (A:=[au true 23 1 vl.v 4 [w0.v,w1.v,w2.v,w3.v],bn false w0 n0 T0,bn false w1 n1 T1,bn false w2 n2 T2,bn false w3 n3 T3]) (pR (by decide)),⟨_,rfl⟩,N,hN,rfl,rfl⟩
 refine Dn _ (n0:Int) (n1:Int) (n2:Int) (n3:Int) T0 T1 T2 T3 vl w0 w1 w2 w3 ?_;unfold uz;refine⟨_,DC vl w0 w1 w2 w3 n0 n1 n2 n3 T0 T1 T2 T3 hl,?_⟩;rintro x hs ⟨N,hN,rfl,rfl⟩;refine⟨N,by rw [adG,List.append_nil],rfl,fun b0=>⟨b0,N,hN,rfl,?_⟩⟩;rw [adG,List.append_nil];rfl
theorem DD(b1:Nat)(w0 w1:V1)(n0 n1:Nat)(T0 T1:Nat→Int)(hl:n0+n1+600≤140737488355328):ar adE 55 [.slice (some ⟨b1,0,none⟩) 2 2] [aq b1 true [w0.v,w1.v],bn false w0 n0 T0,bn false w1 n1 T1] fun r hs=> ∃N:Nat→Int,fD N∧r=(Value.agg (aj .u8 64 N).toArray)∧hs=[aq b1 true [w0.v,w1.v],bn false w0 n0 T0,bn false w1 n1 T1]:=by
 refine ar.post (p:=fun r hs=> ∃N:Nat→Int,fD N∧r=(Value.agg (aj .u8 64 N).toArray)∧hs[4]? =some (aq b1 true [w0.v,w1.v])∧hs[5]? =some (bn false w0 n0 T0)∧hs[6]? =some (bn false w1 n1 T1)) ?_ ?_;rotate_left
 ·rintro r hs ⟨N,hN,rfl,g0,g1,g2⟩;refine⟨_,bU.idx [4,5,6] (by decide) ?_,N,hN,rfl,rfl⟩;intro m u hu
  match m,hu with
  | 0,hu=>cases hu;exact⟨4,rfl,g0⟩
  | 1,hu=>cases hu;exact⟨5,rfl,g1⟩
  | 2,hu=>cases hu;exact⟨6,rfl,g2⟩
  | m+3,hu=>simp at hu
 refine F0 _ (n0:Int) (n1:Int) T0 T1 w0 w1 b1 ?_;unfold w_;intro b0;refine⟨_,xi,?_⟩;rintro x hs ⟨b,vh,vk,A,B,rfl,rfl⟩;refine⟨b,vh,vk,A,B,rfl,rfl,?_⟩;refine⟨_,Br b b1 vh vk w0 w1 n0 n1 T0 T1 A B hl,?_⟩;rintro x hs ⟨o,N,hN,rfl,rfl⟩;exact⟨o,N,rfl,rfl,N,hN,by rw [adG,List.append_nil],rfl,rfl,rfl⟩
theorem Bt(b1:Nat)(w0 w1:V1)(n0 n1:Nat)(T0 T1:Nat→Int)(hl:n0+n1+600≤140737488355328):ar adE 48 [.int .u8 2,.slice (some ⟨b1,0,none⟩) 2 2] [aq b1 true [w0.v,w1.v],bn false w0 n0 T0,bn false w1 n1 T1] fun r hs=> ∃(o:V1) (N:Nat→Int),fD N∧r=o.v∧hs=[aq b1 true [w0.v,w1.v],bn false w0 n0 T0,bn false w1 n1 T1]++[bn true o 64 N]:=by
 refine ar.post (p:=fun r hs=> ∃(b0:Nat) (N:Nat→Int),fD N∧r= .slice (some ⟨b0,0,none⟩) 64 64∧hs=[aq b1 true [w0.v,w1.v],bn false w0 n0 T0,bn false w1 n1 T1]++[aq b0 true (aj .u8 64 N)]) ?_ ?_;rotate_left
 ·rintro r hs ⟨b0,N,hN,rfl,rfl⟩;exact⟨_,bU.front (A:=[aq b1 true [w0.v,w1.v],bn false w0 n0 T0,bn false w1 n1 T1]) (pR (by decide)),⟨_,rfl⟩,N,hN,rfl,rfl⟩
 refine Dp _ (n0:Int) (n1:Int) T0 T1 w0 w1 b1 ?_;unfold uA;refine⟨_,DD b1 w0 w1 n0 n1 T0 T1 hl,?_⟩;rintro x hs ⟨N,hN,rfl,rfl⟩;refine⟨N,by rw [adG,List.append_nil],rfl,fun b0=>⟨b0,N,hN,rfl,?_⟩⟩;rw [adG,List.append_nil];rfl
theorem DE(vl:V1)(w0 w1:V1)(n0 n1:Nat)(T0 T1:Nat→Int)(hl:n0+n1+600≤140737488355328):ar adE 55 [vl.v] [au true 23 1 vl.v 2 [w0.v,w1.v],bn false w0 n0 T0,bn false w1 n1 T1] fun r hs=> ∃N:Nat→Int,fD N∧r=(Value.agg (aj .u8 64 N).toArray)∧hs=[au true 23 1 vl.v 2 [w0.v,w1.v],bn false w0 n0 T0,bn false w1 n1 T1]:=by
 refine ar.post (p:=fun r hs=> ∃N:Nat→Int,fD N∧r=(Value.agg (aj .u8 64 N).toArray)∧hs[4]? =some (au true 23 1 vl.v 2 [w0.v,w1.v])∧hs[5]? =some (bn false w0 n0 T0)∧hs[6]? =some (bn false w1 n1 T1)) ?_ ?_;rotate_left
 ·rintro r hs ⟨N,hN,rfl,g0,g1,g2⟩;refine⟨_,bU.idx [4,5,6] (by decide) ?_,N,hN,rfl,rfl⟩;intro m u hu
  match m,hu with
  | 0,hu=>cases hu;exact⟨4,rfl,g0⟩
  | 1,hu=>cases hu;exact⟨5,rfl,g1⟩
  | 2,hu=>cases hu;exact⟨6,rfl,g2⟩
  | m+3,hu=>simp at hu
 refine F1 _ (n0:Int) (n1:Int) T0 T1 vl w0 w1 ?_;unfold xd;intro b0;refine⟨_,xi,?_⟩;rintro x hs ⟨b,vh,vk,A,B,rfl,rfl⟩;refine⟨b,vh,vk,A,B,rfl,rfl,?_⟩;refine⟨_,Bu b vl vh vk w0 w1 n0 n1 T0 T1 A B hl,?_⟩;rintro x hs ⟨o,N,hN,rfl,rfl⟩;exact⟨o,N,rfl,rfl,N,hN,by rw [adG,List.append_nil],rfl,rfl,rfl⟩
theorem Bv(vl:V1)(w0 w1:V1)(n0 n1:Nat)(T0 T1:Nat→Int)(hl:n0+n1+600≤140737488355328):ar adE 48 [.int .u8 2,vl.v] [au true 23 1 vl.v 2 [w0.v,w1.v],bn false w0 n0 T0,bn false w1 n1 T1] fun r hs=> ∃(o:V1) (N:Nat→Int),fD N∧r=o.v∧hs=[au true 23 1 vl.v 2 [w0.v,w1.v],bn false w0 n0 T0,bn false w1 n1 T1]++[bn true o 64 N]:=by
 refine ar.post (p:=fun r hs=> ∃(b0:Nat) (N:Nat→Int),fD N∧r= .slice (some ⟨b0,0,none⟩) 64 64∧hs=[au true 23 1 vl.v 2 [w0.v,w1.v],bn false w0 n0 T0,bn false w1 n1 T1]++[aq b0 true (aj .u8 64 N)]) ?_ ?_;rotate_left
 ·rintro r hs ⟨b0,N,hN,rfl,rfl⟩;exact⟨_,bU.front (A:=[au true 23 1 vl.v 2 [w0.v,w1.v],bn false w0 n0 T0,bn false w1 n1 T1]) (pR (by decide)),⟨_,rfl⟩,N,hN,rfl,rfl⟩
 refine Dq _ (n0:Int) (n1:Int) T0 T1 vl w0 w1 ?_;unfold uB;refine⟨_,DE vl w0 w1 n0 n1 T0 T1 hl,?_⟩;rintro x hs ⟨N,hN,rfl,rfl⟩;refine⟨N,by rw [adG,List.append_nil],rfl,fun b0=>⟨b0,N,hN,rfl,?_⟩⟩;rw [adG,List.append_nil];rfl
theorem DF(vl:V1)(w0 w1 w2 w3:V1)(n0 n1 n2 n3:Nat)(T0 T1 T2 T3:Nat→Int)(hl:n0+n1+n2+n3+600≤140737488355328):ar adE 55 [vl.v] [au true 23 1 vl.v 4 [w0.v,w1.v,w2.v,w3.v],bn false w0 n0 T0,bn false w1 n1 T1,bn false w2 n2 T2,bn false w3 n3 T3] fun r hs=> ∃N:Nat→Int,fD N∧r=(Value.agg (aj .u8 64 N).toArray)∧hs=[au true 23 1 vl.v 4 [w0.v,w1.v,w2.v,w3.v],bn false w0 n0 T0,bn false w1 n1 T1,bn false w2 n2 T2,bn false w3 n3 T3]:=by
 refine ar.post (p:=fun r hs=> ∃N:Nat→Int,fD N∧r=(Value.agg (aj .u8 64 N).toArray)∧hs[6]? =some (au true 23 1 vl.v 4 [w0.v,w1.v,w2.v,w3.v])∧hs[7]? =some (bn false w0 n0 T0)∧hs[8]? =some (bn false w1 n1 T1)∧hs[0]? =some (bn false w2 n2 T2)∧hs[1]? =some (bn false w3 n3 T3)) ?_ ?_;rotate_left
 ·rintro r hs ⟨N,hN,rfl,g0,g1,g2,g3,g4⟩;refine⟨_,bU.idx [6,7,8,0,1] (by decide) ?_,N,hN,rfl,rfl⟩;intro m u hu
  match m,hu with
  | 0,hu=>cases hu;exact⟨6,rfl,g0⟩
  | 1,hu=>cases hu;exact⟨7,rfl,g1⟩
  | 2,hu=>cases hu;exact⟨8,rfl,g2⟩
  | 3,hu=>cases hu;exact⟨0,rfl,g3⟩
  | 4,hu=>cases hu;exact⟨1,rfl,g4⟩
  | m+5,hu=>simp at hu
 refine F2 _ (n0:Int) (n1:Int) (n2:Int) (n3:Int) T0 T1 T2 T3 vl w0 w1 w2 w3 ?_;unfold xe;intro b0;refine⟨_,xi,?_⟩;rintro x hs ⟨b,vh,vk,A,B,rfl,rfl⟩;refine⟨b,vh,vk,A,B,rfl,rfl,?_⟩;refine⟨_,Bw b vl vh vk w0 w1 w2 w3 n0 n1 n2 n3 T0 T1 T2 T3 A B hl,?_⟩;rintro x hs ⟨o,N,hN,rfl,rfl⟩;exact⟨o,N,rfl,rfl,N,hN,by rw [adG,List.append_nil],rfl,rfl,rfl,rfl,rfl⟩
theorem Bx(vl:V1)(w0 w1 w2 w3:V1)(n0 n1 n2 n3:Nat)(T0 T1 T2 T3:Nat→Int)(hl:n0+n1+n2+n3+600≤140737488355328):ar adE 48 [.int .u8 2,vl.v] [au true 23 1 vl.v 4 [w0.v,w1.v,w2.v,w3.v],bn false w0 n0 T0,bn false w1 n1 T1,bn false w2 n2 T2,bn false w3 n3 T3] fun r hs=> ∃(o:V1) (N:Nat→Int),fD N∧r=o.v∧hs=[au true 23 1 vl.v 4 [w0.v,w1.v,w2.v,w3.v],bn false w0 n0 T0,bn false w1 n1 T1,bn false w2 n2 T2,bn false w3 n3 T3]++[bn true o 64 N]:=by
 refine ar.post (p:=fun r hs=> ∃(b0:Nat) (N:Nat→Int),fD N∧r= .slice (some ⟨b0,0,none⟩) 64 64∧hs=[au true 23 1 vl.v 4 [w0.v,w1.v,w2.v,w3.v],bn false w0 n0 T0,bn false w1 n1 T1,bn false w2 n2 T2,bn false w3 n3 T3]++[aq b0 true (aj .u8 64 N)]) ?_ ?_;rotate_left
 ·rintro r hs ⟨b0,N,hN,rfl,rfl⟩;exact⟨_,bU.front (A:=[au true 23 1 vl.v 4 [w0.v,w1.v,w2.v,w3.v],bn false w0 n0 T0,bn false w1 n1 T1,bn false w2 n2 T2,bn false w3 n3 T3]) (pR (by decide)),⟨_,rfl⟩,N,hN,rfl,rfl⟩
 refine Dr _ (n0:Int) (n1:Int) (n2:Int) (n3:Int) T0 T1 T2 T3 vl w0 w1 w2 w3 ?_;unfold uC;refine⟨_,DF vl w0 w1 w2 w3 n0 n1 n2 n3 T0 T1 T2 T3 hl,?_⟩;rintro x hs ⟨N,hN,rfl,rfl⟩;refine⟨N,by rw [adG,List.append_nil],rfl,fun b0=>⟨b0,N,hN,rfl,?_⟩⟩;rw [adG,List.append_nil];rfl
end Go.RX.Fq
