/- SHA's constants. -/
import Derived.Test.YtllcdnkfbeokhaaGreatM39
open Go.IntKind renaming wrap → ae
open Go.Proofs.Tryz renaming prog → auN
open Int renaming toNat → ag, toNat_natCast → auD
open List renaming getD_cons_zero → ah, getElem?_append_left → auu, getElem?_append_right → auv, getElem?_eq_getElem → auU, getElem?_eq_some_iff → aup, mem_range → auG
open Option.some renaming injEq → auq
namespace Go.RX.Sh
def als:List Nat:=[4794697086780616226,8158064640168781261,13096744586834688815,16840607885511220156,4131703408338449720,6480981068601479193,10538285296894168987,12329834152419229976,15566598209576043074,1334009975649890238,2608012711638119052,6128411473006802146,8268148722764581231,9286055187155687089,11230858885718282805,13951009754708518548,16472876342353939154,17275323862435702243,1135362057144423861,2597628984639134821,3308224258029322869,5365058923640841347,6679025012923562964,8573033837759648693,10970295158949994411,12119686244451234320,12683024718118986047,13788192230050041572,14330467153632333762,15395433587784984357,489312712824947311,1452737877330783856,2861767655752347644,3322285676063803686,5560940570517711597,5996557281743188959,7280758554555802590,8532644243296465576,9350256976987008742,10552545826968843579,11727347734174303076,12113106623233404929,14000437183269869457,14369950271660146224,15101387698204529176,15463397548674623760,17586052441742319658,1182934255886127544,1847814050463011016,2177327727835720531,2830643537854262169,3796741975233480872,4115178125766777443,5681478168544905931,6601373596472566643,7507060721942968483,8399075790359081724,8693463985226723168,9568029438360202098,10144078919501101548,10430055236837252648,11840083180663258601,13761210420658862357,14299343276471374635,14566680578165727644,15097957966210449927,16922976911328602910,17689382322260857208,500013540394364858,748580250866718886,1242879168328830382,1977374033974150939,2944078676154940804,3659926193048069267,4368137639120453308,4836135668995329356,5532061633213252278,6448918945643986474,6902733635092675308,7801388544844847127]
def alu:List Nat:=[7640891576956012808,13503953896175478587,4354685564936845355,11912009170470909681,5840696475078001361,11170449401992604703,2270897969802886507,6620516959819538809]
def K64(j:Nat):Nat:=als.getD j 0
def K0(j:Nat):Nat:=K64 j/2^32
def H0(j:Nat):Nat:=alu.getD j 0/2^32
theorem ae2(j:Nat)(hj:j<64):K0 j<2^32:=by
 have: ∀j,j<64→K0 j<2^32:=by decide+kernel
 exact this j hj
theorem ae3(j:Nat)(hj:j<8):H0 j<2^32:=by
 have: ∀j,j<8→H0 j<2^32:=by decide+kernel
 exact this j hj
def bytesOf(C:Nat→Nat)(j:Nat):Nat:=C (j/4)/2^(24 - 8*(j%4))%256
theorem SL(C:Nat→Nat)(j:Nat):bytesOf C j<256:=Nat.mod_lt _ (by decide)
theorem cb(w s:Nat)(hs:s≤32):ae .u8 (ar .shr .u32 (w:Int) (s:Int))=((w/2^s%256:Nat):Int):=by
 rw [sS .u32 w s hs,wrap_u8,Nat.shiftRight_eq_div_pow]
end Go.RX.Sh

namespace Go.RX.Fk
open Go.RX Go.Proofs Go.RX.Fe Go.RX.Fg Go.RX.Fi Go.RX.Fj
noncomputable def cx:Ctx:={T:=TT,FT:=FT,loops:=Fk.loops,br:=Fk.br}
set_option maxRecDepth 100000
end Go.RX.Fk

namespace Go.RX.Fj
open Go.RX Go.Proofs Go.RX.Fe Go.RX.Fg Go.RX.Fi
noncomputable def cx:Ctx:={T:=TT,FT:=FT,loops:=Fj.loops,br:=Fj.br}
set_option maxRecDepth 100000
def zJ(al:PT)(x0:Int):Prop:=
 ∃(cH:Ext→Prop) (dp:Ext→Nat),(∃x1 x2:Int,x1=0∧x2=1∧cH ⟨[],[],[x1,x2],[],[],[],[]⟩)∧
 ∀x1 x2:Int,cH ⟨[],[],[x1,x2],[],[],[],[]⟩→
 bt (x1<x0) (
 gS (x1+1) ((
 ∃kX h_:Int,kX=(x1+1)∧h_=(ae .u8 (2*x2))∧cH ⟨[],[],[kX,h_],[],[],[],[]⟩∧dp ⟨[],[],[kX,h_],[],[],[],[]⟩<dp ⟨[],[],[x1,x2],[],[],[],[]⟩))) (
 al (.int .u8 x2) [])
end Go.RX.Fj

namespace Go.RX.Fg
open Go.RX Go.Proofs Go.RX.Fe
noncomputable def cx:Ctx:={T:=TT,FT:=FT,loops:=loops,br:=br}
set_option maxRecDepth 100000
end Go.RX.Fg

namespace Go.RX.Fe
open Go.RX Go.Proofs
noncomputable def cx:Ctx:={T:=TT,FT:=FT,loops:=loops,br:=br}
set_option maxRecDepth 100000
end Go.RX.Fe

namespace Go.Ae
def upT:Nat:=247704880781559356684414323119999879637317647180040216102211349143305888774923398537951341803642731683984666991564019150676315804531779449815159115664189418245566988781254625896260912026622159780553349108386186142268315007856282091988200171439146255715840100601167723801170608095743514940052926055042184507632911811387723359914440662207451538163404716729158929845121383729837235901114109841630616474463024741216292666125260571984924724184385554713500007113061044175325657975136216706165622836048350080632971744177780693200859426168487707538171671676645432511882666690861394815764438377708986394032816479809277592321
def sT:Nat:=2869618975290639062594974519597816386035077209210385677284518162336985023502962151465775969507961862820568736543004676439868535775640188584098917533413284844376797297285941524888791401501466624530423689326528054213168201056672989590893583853414110162539122864583953358348775951166211353578440977400428507475679327181038682772945817200201960445064847785221508011893952350688324234443749897213621340677040612747745615276448919507935121141307752692835344166708617454322778699219895865633266409040561742768581056182730443599545881830075941537620590442514083341749674612746994879540562701631131184186066652929592955206755
def up(i:Nat):Nat:=upT/256^i%256
def sb(j:Nat):Nat:=sT/256^j%256
def dbl(a:Nat):Nat:=(2*a%256)^^^(27*(a/128))
def rc:Nat→Nat
 | 0=>1
 | n+1=>dbl (rc n)
def W(n:Nat)(K:Nat→Nat)(i k:Nat):Nat:=
 if h:i<n∨n=0 then K (4*i+k)else
  W n K (i - n) k^^^(if i%n=0 then sb (W n K (i - 1) ((k+1)%4))^^^(if k=0 then rc (i/n - 1)else 0)else if n=8∧i%8=4 then sb (W n K (i - 1) k)else W n K (i - 1) k)
termination_by i
decreasing_by all_goals omega
def shS(s:Nat→Nat)(i:Nat):Nat:=sb (s ((i+4*(i%4))%16))
def alw(t:Nat→Nat)(i:Nat):Nat:=dbl (t i)^^^(t (i/4*4+(i+1)%4)^^^dbl (t (i/4*4+(i+1)%4)))^^^t (i/4*4+(i+2)%4)^^^t (i/4*4+(i+3)%4)
def rs(w:Nat→Nat→Nat)(m:Nat)(B:Nat→Nat):Nat→(Nat→Nat)
 | 0=>fun i=>B i^^^w (i/4) (i%4)
 | r+1=>fun i=>(if r+1<m then alw (shS (rs w m B r)) i else shS (rs w m B r) i)^^^w (4*(r+1)+i/4) (i%4)
end Go.Ae

namespace Go.RX.Fe
open Go Go.RX Go.Proofs Go.Ae Go.RX.Sh
def cw(n:Nat)(K:Nat→Nat):Nat→Int:=fun j=>(W n K (j/4) (j%4):Nat)
theorem four(w:Nat→Int)(a b c d:Int)(f:Nat→Nat)(h0:a=(f 0:Nat))(h1:b=(f 1:Nat))(h2:c=(f 2:Nat))(h3:d=(f 3:Nat)): ∀k,k<4→aw (aw (aw (aw w 0 a) 1 b) 2 c) 3 d k=(f k:Nat):=by
 intro k hk;have:k=0∨k=1∨k=2∨k=3:=by omega
 rcases this with rfl | rfl | rfl | rfl
 ·exact h0
 ·exact h1
 ·exact h2
 ·exact h3
open Go Go.RX Go.Proofs Go.Ae Go.RX.Sh
theorem Lk(i n:Nat):ar .quo .i64 (i:Int) (n:Int)=((i/n:Nat):Int):=by
 simp only [ar];rw [Int.tdiv_eq_ediv_of_nonneg (by omega)];omega
theorem ae4(n:Nat)(hn:n<100):ae .i64 (ar .quo .i64 (Int.ofNat (4*(n+7))) 4) - 1=((n+6:Nat):Int):=by
 have:=Lk (4*(n+7)) 4;rw [show ar .quo .i64 (Int.ofNat (4*(n+7))) 4=((n+7:Nat):Int) by rw [show(Int.ofNat (4*(n+7)):Int)=((4*(n+7):Nat):Int)from rfl,show(4:Int)=((4:Nat):Int)from rfl,Lk];omega];rw [wQ .i64 _ (by show(-9223372036854775808:Int)≤_;omega) (by show _≤(9223372036854775807:Int);omega)];omega
end Go.RX.Fe

namespace Go.Ae
def alx(B:Nat→Nat):Nat:=B 12*16777216+B 13*65536+B 14*256+B 15
def nx(B:Nat→Nat)(j:Nat):Nat:=if j<12 then B j else(alx B+1)%4294967296/256^(15 - j)%256
end Go.Ae

namespace Go.RX.Fg
open Go Go.RX Go.Proofs Go.Ae Go.RX.Sh Go.RX.Fe
def dG(md:Bool)(v:V1)(n:Nat)(T:Nat→Nat):HP:=aB md 5 1 v.v n (aM n [ay .u8 1 fun j=>(T j:Nat)])
theorem nL{n:Nat}{f g:Nat→Int}(h: ∀j,j<n→f j=g j):aM n [ay .u8 1 f]=aM n [ay .u8 1 g]:=by
 unfold aM;have: ∀i∈List.range n,([ay .u8 1 f].flatMap fun c=>c i)=([ay .u8 1 g].flatMap fun c=>c i):=by
  intro i hi;rw [auG]at hi;simp only [List.flatMap_cons,List.flatMap_nil,List.append_nil,ay];exact cE .u8 1 fun j hj=>h (i*1+j) (by omega)
 rw [List.flatMap_def,List.flatMap_def,List.map_congr_left this]
open Go Go.RX Go.Proofs Go.Ae
theorem bI.ae5{a:List HP}{x:HP}(i:Nat)(h:a[i]? =some x):bI a [x]:=by
 obtain⟨hl,he⟩:=aup.1 h;refine bI.sub ?_;rw [List.singleton_sublist];exact he▸List.getElem_mem hl
def oZ(x:Value)(n:Nat)(T:Nat→Nat):HP:=aB false 5 1 x n (aM n [ay .u8 1 fun j=>(T j:Nat)])
theorem bc.bytes{v:V1}{n:Nat}{T:Nat→Nat}:bc [dG true v n T] (oZ v.v n T):=bc.own
theorem bc.view{v:V1}{n:Nat}{T:Nat→Nat}:bc [dG false v n T] (oZ v.v n T):=bc.self rfl
theorem SM(k:IntKind)(n lo m:Nat)(f:Nat→Int)(h:lo+m≤n):((aM n [ay k 1 f]).drop (lo*1)).take (m*1)=aM m [ay k 1 fun j=>f (lo+j)]:=by
 rw [D4,D4,Nat.mul_one,Nat.mul_one,tm,gw k (n - lo) m _ (by omega)]
theorem bc.part{B:List HP}{x:Value}{n lo hi:Nat}{mx:Option Nat}{T:Nat→Nat}(hb:bc B (oZ x n T))(h1:lo≤hi)(h2:hi≤n)(h3: ∀m,mx=some m→hi≤m):
  bc B (oZ (aF 1 x lo hi mx) (hi - lo) fun j=>T (lo+j)):=by
 have:=bc.sub (lo:=lo) (hi:=hi) (mx:=mx) hb h1 h2 h3;rw [SM .u8 n lo (hi - lo) _ (by omega)]at this;exact this
theorem bc.block{b n m:Nat}{wr:Bool}{A:Nat→Int}{T:Nat→Nat}(hA: ∀j,j<n→A j=(T j:Nat))(hm:n≤m):bc [ak b wr (aj .u8 n A)] (oZ (.slice (some ⟨b,0,none⟩) n m) n T):=by
 have:=bc.row (t:=5) (b:=b) (wr:=wr) (lo:=0) (n:=n) (m:=m) (cs:=aj .u8 n A) (by simp [aE]) hm;rw [List.drop_zero,gw .u8 n n _ (Nat.le_refl _)]at this;unfold oZ;rw [D4,cE .u8 n fun j hj=>(hA j hj).symm];exact this
end Go.RX.Fg

namespace Go.RX.Fj
open Go Go.RX Go.Proofs Go.Ae Go.RX.Sh Go.RX.Fe Go.RX.Fg Go.RX.Fi
theorem ae6{a b:Nat}(ha:a<256):ae .u8 (ar .quo .u8 (a:Int) (b:Int))=((a/b:Nat):Int):=by
 have h:ar .quo .u8 (a:Int) (b:Int)=((a/b:Nat):Int):=rfl;rw [h,wrap_u8,Nat.mod_eq_of_lt (Nat.lt_of_le_of_lt (Nat.div_le_self a b) ha)]
open Go Go.RX Go.Proofs Go.Ae Go.RX.Sh Go.RX.Fe Go.RX.Fg Go.RX.Fi
def bs(y k:Nat):Nat:=y/2^k%2+y/2^((k+4)%8)%2+y/2^((k+5)%8)%2+y/2^((k+6)%8)%2+y/2^((k+7)%8)%2+99/2^k%2
def pt(y:Nat):Nat→Nat
 | 0=>0
 | k+1=>pt y k+(if bs y k%2=1 then 2^k else 0)
open Go Go.RX Go.Proofs Go.Ae Go.RX.Sh Go.RX.Fe Go.RX.Fg Go.RX.Fi
theorem w64{a:Nat}(h:a<2^64):ae .u64 (a:Int)=(a:Int):=by rw [wrap_u64,Nat.mod_eq_of_lt h]
open Go Go.RX Go.Proofs Go.Ae Go.RX.Sh Go.RX.Fe Go.RX.Fg Go.RX.Fi
theorem bc.get{B:List HP}{md:Bool}{v:V1}{n:Nat}{T:Nat→Nat}(i:Nat)(h:B[i]? =some (dG md v n T)):bc B (oZ v.v n T):=by
 obtain⟨hl,he⟩:=aup.1 h;have e:B=B.take i++[dG md v n T]++B.drop (i+1):=by
  rw [List.append_assoc,←he];simp
 rw [e];refine bc.mid ?_;cases md
 ·exact bc.view
 ·exact bc.bytes
end Go.RX.Fj

namespace Go.Gh
def xs:Nat→(Nat→Bool)→Bool
 | 0,_=>false
 | n+1,f=>xs n f ^^ f n
def xt(f:Nat→Bool):Nat→Bool:=fun i=>if i=0 then f 127 else f (i - 1) ^^ (f 127&&(decide (i=1)||decide (i=2)||decide (i=7)))
def xtn:Nat→(Nat→Bool)→(Nat→Bool)
 | 0,f=>f
 | n+1,f=>xt (xtn n f)
def add(f g:Nat→Bool):Nat→Bool:=fun i=>f i ^^ g i
def e(k:Nat):Nat→Bool:=fun i=>decide (i=k)
def R(k:Nat):Nat→Bool:=xtn k (e 0)
def gm(p q:Nat→Bool):Nat→Bool:=fun i=>xs 128 fun a=>xs 128 fun b=>(p a&&q b)&&R (a+b) i
def yU(p q:Nat→Bool):Nat→(Nat→Bool)
 | 0=>fun _=>false
 | k+1=>fun i=>xt (yU p q k) i ^^ (p (127 - k)&&q i)
def conv(p q:Nat→Bool):Nat→Bool:=fun k=>xs 128 fun a=>xs 128 fun b=>(p a&&q b)&&decide (a+b=k)
def pb(B:Nat→Nat):Nat→Bool:=fun i=>(B (i/8)).testBit (7 - i%8)
def tS(T:Nat→Nat)(len r j:Nat):Nat:=if 16*r+j<len then T (16*r+j)else 0
def gh(H:Nat→Bool)(T:Nat→Nat)(len:Nat):Nat→(Nat→Bool)
 | 0=>fun _=>false
 | r+1=>gm (add (gh H T len r) (pb (tS T len r))) H
end Go.Gh

namespace Go.RX.Fk
open Go Go.RX Go.Proofs Go.Ae Go.RX.Sh Go.RX.Fe Go.RX.Fg Go.RX.Fi Go.RX.Fj Go.Gh
theorem Hh{f:Nat}{args:List Value}{L B:List HP}{n:Nat}{T:Nat→Nat}(hm:aq auN f args L fun r hs=> ∃o:V1,r=o.v∧hs=[dG true o n T])(hL: ∀h∈L,bc B h):
  aq auN f args B fun r hs=> ∃o:V1,r=o.v∧hs=B++[dG true o n T]:=by
 have h:aq auN f args ([]++L) fun r hs=> ∃nw,(∃o:V1,r=o.v∧nw=[dG true o n T])∧hs=[]++nw:=by
  refine aq.post hm ?_;rintro r hs ⟨o,hr,rfl⟩;exact⟨_,bI.refl _,_,⟨o,hr,rfl⟩,rfl⟩
 refine aq.post (aq.XM h (by simp) ?_ hL) ?_
 ·rintro v nw ⟨o,_,rfl⟩ h hh;simp only [List.mem_cons,List.not_mem_nil,or_false]at hh;subst hh;rfl
 ·rintro r hs ⟨nw,⟨o,hr,rfl⟩,rfl⟩;exact⟨_,bI.refl _,o,hr,rfl⟩
theorem ae7{p:HP→Prop}{a:HP}(h:p a): ∀x∈[a],p x:=by simpa using h
def b1(b:Bool):Nat:=if b then 1 else 0
end Go.RX.Fk

namespace Go.RX.Fm
open Go Go.RX Go.Proofs Go.RX.Sh Go.RX.Fg Go.RX.Fj Go.RX.Fk
theorem ae4{x:Int}(h0:0≤x)(h1:x≤64):ae .i64 (ar .quo .i64 x 4)=((x.toNat/4:Nat):Int):=by
 obtain⟨i,rfl⟩:=Int.eq_ofNat_of_zero_le h0;show ae .i64 (Int.tdiv (i:Int) 4)=_;have:Int.tdiv (i:Int) 4=((i/4:Nat):Int):=rfl;rw [this,auD];simp [ae,IntKind.signed,IntKind.bits];omega
abbrev wh(b:Nat)(vh vk:V1):HP:=ak b true [vh.v,vk.v,.int .i64 4,.int .i64 2,.int .i64 13,.int .i64 22,.int .i64 6,.int .i64 11,.int .i64 25,.int .i64 7,.int .i64 18,.int .i64 3,.int .i64 17,.int .i64 19,.int .i64 10]
theorem SN{B:Nat→Nat}{A:Nat→Int}(hB: ∀j,j<64→B j<256){t:Int}(h0:16≤t)(h1:t<64)(hA: ∀j,j<64→A j=((gP B (t.toNat - 16) j:Nat):Int))(j:Nat)(hj:j<64):
  aw A (ag t) (ae .u32 ((ae .u32 ((ae .u32 ((ar .cz .u32 (ar .cz .u32 (ar .cK .u32 (ar .shr .u32 (A (ag (t - 2))) 17) (ar .shl .u32 (A (ag (t - 2))) 15)) (ar .cK .u32 (ar .shr .u32 (A (ag (t - 2))) 19) (ar .shl .u32 (A (ag (t - 2))) 13))) (ar .shr .u32 (A (ag (t - 2))) 10))+(A (ag (t - 7)))))+(ar .cz .u32 (ar .cz .u32 (ar .cK .u32 (ar .shr .u32 (A (ag (t - 15))) 7) (ar .shl .u32 (A (ag (t - 15))) 25)) (ar .cK .u32 (ar .shr .u32 (A (ag (t - 15))) 18) (ar .shl .u32 (A (ag (t - 15))) 14))) (ar .shr .u32 (A (ag (t - 15))) 3))))+(A (ag (t - 16))))) j
   =((gP B (t.toNat - 16+1) j:Nat):Int):=by
 have hl:=JH hB (t.toNat - 16);obtain⟨n,hn⟩: ∃n,n=t.toNat - 16:=⟨_,rfl⟩;rw [←hn]at hA hl ⊢;rw [gP];unfold aw;dsimp only;by_cases JJ:j=t.toNat
 ·rw [if_pos JJ,if_pos (by omega)];rw [hA (ag (t - 2)) (by omega),hA (ag (t - 7)) (by omega),hA (ag (t - 15)) (by omega),hA (ag (t - 16)) (by omega)];rw [show ag (t - 2)=n+14 by omega,show ag (t - 7)=n+9 by omega,show ag (t - 15)=n+1 by omega,show ag (t - 16)=n by omega];rw [alo (hl _),aln (hl _),sj,sj,sj];congr 1;omega
 ·rw [if_neg JJ,if_neg (by omega)];exact hA j hj
theorem WV{v:Nat→Nat}(hv: ∀j,j<8→v j<2^32)(k w:Nat):
  ae .u32 ((ae .u32 ((ae .u32 ((ae .u32 (((v 7:Nat):Int)+(ar .cz .u32 (ar .cz .u32 (ar .cK .u32 (ar .shr .u32 ((v 4:Nat):Int) 6) (ar .shl .u32 ((v 4:Nat):Int) 26)) (ar .cK .u32 (ar .shr .u32 ((v 4:Nat):Int) 11) (ar .shl .u32 ((v 4:Nat):Int) 21))) (ar .cK .u32 (ar .shr .u32 ((v 4:Nat):Int) 25) (ar .shl .u32 ((v 4:Nat):Int) 7)))))+(ar .cz .u32 (ar .gp .u32 ((v 4:Nat):Int) ((v 5:Nat):Int)) (ar .gp .u32 (ar .cz .u32 4294967295 ((v 4:Nat):Int)) ((v 6:Nat):Int)))))+((k:Nat):Int)))+((w:Nat):Int))=((temp v k w:Nat):Int):=by
 rw [alq (hv 4 (by omega)),alr (hv 4 (by omega)) (hv 5 (by omega)) (hv 6 (by omega)),sj,sj,sj,sj];unfold temp;congr 1;omega
theorem SO{v:Nat→Nat}(hv: ∀j,j<8→v j<2^32):
  ae .u32 ((ar .cz .u32 (ar .cz .u32 (ar .cK .u32 (ar .shr .u32 ((v 0:Nat):Int) 2) (ar .shl .u32 ((v 0:Nat):Int) 30)) (ar .cK .u32 (ar .shr .u32 ((v 0:Nat):Int) 13) (ar .shl .u32 ((v 0:Nat):Int) 19))) (ar .cK .u32 (ar .shr .u32 ((v 0:Nat):Int) 22) (ar .shl .u32 ((v 0:Nat):Int) 10)))+(ar .cz .u32 (ar .cz .u32 (ar .gp .u32 ((v 0:Nat):Int) ((v 1:Nat):Int)) (ar .gp .u32 ((v 0:Nat):Int) ((v 2:Nat):Int))) (ar .gp .u32 ((v 1:Nat):Int) ((v 2:Nat):Int))))=(((S0 (v 0)+Xt (v 0) (v 1) (v 2))%2^32:Nat):Int):=by
 rw [alp (hv 0 (by omega)),ae0 (hv 0 (by omega)) (hv 1 (by omega)) (hv 2 (by omega)),sj]
def eight(v:Nat→Nat)(a:Nat):List Int:=[((v 0:Nat):Int),((v 1:Nat):Int),((v 2:Nat):Int),((v 3:Nat):Int),((v 4:Nat):Int),((v 5:Nat):Int),((v 6:Nat):Int),((v 7:Nat):Int),(a:Int)]
theorem JK(v:Nat→Nat)(k w a:Nat):[(((temp v k w+(S0 (v 0)+Xt (v 0) (v 1) (v 2))%2^32)%2^32:Nat):Int),((v 0:Nat):Int),((v 1:Nat):Int),((v 2:Nat):Int),(((v 3+temp v k w)%2^32:Nat):Int),((v 4:Nat):Int),((v 5:Nat):Int),((v 6:Nat):Int),(a:Int)+1]=eight (Sh.step v k w) (a+1):=by
 unfold eight;rw [PC,PD,mo v k w (j:=1) (by decide) (by decide) (by decide),mo v k w (j:=2) (by decide) (by decide) (by decide),mo v k w (j:=3) (by decide) (by decide) (by decide),mo v k w (j:=5) (by decide) (by decide) (by decide),
  mo v k w (j:=6) (by decide) (by decide) (by decide),mo v k w (j:=7) (by decide) (by decide) (by decide),Int.natCast_add a 1]
 simp only [Int.natCast_one]
theorem Ez{K H B R:Nat→Nat}(hR:R=WR K (gP B 48) H 64)(j:Nat):comp K H B j=(H j+R j)%2^32:=by
 unfold comp;rw [hR]
abbrev fM(v:V1)(n:Nat)(A:Nat→Int):HP:=aB true 39 1 v.v n (aM n [ay .u32 1 A])
theorem Hi(b:Nat)(vh vk vb:V1)(A0 A1 A2:Nat→Int)(K H B:Nat→Nat)(vV: ∀j,j<8→A0 j=(H j:Nat))(hH: ∀j,j<8→H j<2^32)
  (X4: ∀j,j<64→A1 j=(K j:Nat)) (hA2: ∀j,j<64→A2 j=(B j:Nat)) (hB: ∀j,j<64→B j<256):
  aq auN 98 [.pointer (some ⟨b,0,none⟩),vb.v] [wh b vh vk,fM vh 8 A0,fM vk 64 A1,aB false 5 1 vb.v 64 (aM 64 [ay .u8 1 A2])]
   (fun r hs=> ∃A:Nat→Int,r= .tuple #[]∧hs=[wh b vh vk,fM vh 8 A,fM vk 64 A1]∧∀j,j<8→A j=((comp K H B j:Nat):Int)):=by
 refine SJ _ A0 A1 A2 vh vk vb b ?_;unfold Hd;intro v3;refine⟨fun e=> ∃a:Nat,a≤64∧e.i=[(a:Int)]∧∀j,j<64→e.a.getD 0 (fun _=>0) j=((fill B a j:Nat):Int),fun e=>(64 - e.i.getD 0 0).toNat,⟨0,fun _=>0,rfl,fun _ _=>rfl,0,by omega,rfl,fun j _=>rfl⟩,?_⟩;rintro x1 A3 ⟨a,ha,hx,hA⟩;simp only [List.cons.injEq,and_true]at hx;subst hx;simp only [ah]at hA;have hq:=ae4 (x:=(a:Int)) (by omega) (by omega);refine⟨fun cF=>⟨by rw [hq];omega,fun _=>⟨by rw [hq];omega,fun _=>⟨by omega,fun _=>⟨by omega,fun _=>⟨by omega,fun _=>?_⟩⟩⟩⟩⟩,fun mn=>?_⟩
 ·refine⟨(a:Int)+1,_,rfl,fun _ _=>rfl,⟨a+1,by omega,rfl,fun j hj=>?_⟩,?_⟩
  ·simp only [ah];rw [hq,auD,auD,fill];unfold aw;dsimp only;by_cases JJ:j=a/4
   ·rw [if_pos JJ,if_pos JJ,hA _ (by omega),hA2 a (by omega),wrap_u32];have hb:=hB a (by omega);rw [Nat.mod_eq_of_lt (by omega),show ar .shl .u32 ((fill B a (a/4):Nat):Int) 8=_ from Yb (fill B a (a/4)) 8 (by decide),aeW (Nat.mod_lt _ (Nat.two_pow_pos 32)) (by omega)]
   ·rw [if_neg JJ,if_neg JJ];exact hA j hj
  ·simp only [ah];omega
 have JL:a=64:=by omega
 subst JL;refine⟨fun e=> ∃a:Nat,16≤a∧a≤64∧e.i=[(a:Int)]∧∀j,j<64→e.a.getD 0 (fun _=>0) j=((gP B (a - 16) j:Nat):Int),fun e=>(64 - e.i.getD 0 0).toNat,⟨16,A3,rfl,fun _ _=>rfl,16,by omega,by omega,rfl,fun j hj=>?_⟩,?_⟩
 ·simp only [ah];rw [hA j hj,SK hB]
 rintro x2 A4 ⟨a,aro,ha,hx,hA4⟩;simp only [List.cons.injEq,and_true]at hx;subst hx;simp only [ah]at hA4;refine⟨fun cF=>⟨by omega,fun _=>⟨by omega,fun _=>⟨by omega,fun _=>⟨by omega,fun _=>⟨by omega,fun _=>⟨by omega,fun _=>⟨by omega,fun _=>⟨by omega,fun _=>⟨by omega,fun _=>⟨by omega,fun _=>⟨by omega,fun _=>⟨by omega,fun _=>⟨by omega,fun _=>⟨by omega,fun _=>⟨by omega,fun _=>⟨by omega,fun _=>fun b1 b2=>⟨by omega,fun _=>⟨by omega,fun _=>⟨by omega,fun _=>?_⟩⟩⟩⟩⟩⟩⟩⟩⟩⟩⟩⟩⟩⟩⟩⟩⟩⟩⟩,fun mn=>fun b1=>?_⟩
 ·refine⟨(a:Int)+1,_,rfl,fun _ _=>rfl,⟨a+1,by omega,by omega,rfl,fun j hj=>?_⟩,?_⟩
  ·simp only [ah];have:=SN hB (t:=(a:Int)) (by omega) (by omega) (A:=A4) (by rw [auD];exact hA4) j hj;rw [this,auD,show a - 16+1=a+1 - 16 by omega]
  ·simp only [ah];omega
 have JL:a=64:=by omega
 subst JL;have hv:=JI (K:=K) (W:=gP B 48) hH;refine⟨fun e=> ∃a:Nat,a≤64∧e.i=eight (WR K (gP B 48) H a) a,fun e=>(64 - e.i.getD 8 0).toNat,⟨_,_,_,_,_,_,_,_,0,rfl,(vV 0 (by omega)).symm,(vV 1 (by omega)).symm,(vV 2 (by omega)).symm,(vV 3 (by omega)).symm,(vV 4 (by omega)).symm,(vV 5 (by omega)).symm,(vV 6 (by omega)).symm,(vV 7 (by omega)).symm,0,by omega,rfl⟩,?_⟩;rintro x3 x4 x5 x6 x7 x8 x9 bE bO ⟨a,ha,hx⟩;simp only [eight,List.cons.injEq,and_true]at hx;obtain⟨rfl,rfl,rfl,rfl,rfl,rfl,rfl,rfl,rfl⟩:=hx;refine⟨fun cF=>⟨by omega,fun _=>fun b2 b3=>⟨by omega,fun _=>⟨by omega,fun _=>?_⟩⟩⟩,fun mn=>?_⟩
 ·refine⟨_,_,_,_,_,_,_,_,(a:Int)+1,rfl,rfl,rfl,rfl,rfl,rfl,rfl,rfl,rfl,⟨a+1,by omega,?_⟩,?_⟩
  ·have hk:A1 (ag (a:Int))=((K a:Nat):Int):=by rw [auD];exact X4 a (by omega)
   have hw:A4 (ag (a:Int))=((gP B 48 a:Nat):Int):=by rw [auD];exact hA4 a (by omega)
   rw [hk,hw,WV (hv a),SO (hv a),sj,sj];exact JK _ _ _ _
  ·simp only [ah,List.getD_cons_succ];omega
 have JL:a=64:=by omega
 subst JL;obtain⟨R,hR⟩: ∃R:Nat→Nat,R=WR K (gP B 48) H 64:=⟨_,rfl⟩;have hc:=Ez hR;rw [←hR];refine⟨fun e=> ∃a:Nat,a≤8∧e.i=[(a:Int)]∧(∀j,j<8→e.a.getD 1 (fun _=>0) j=((R j:Nat):Int))∧∀j,j<8→e.a.getD 0 (fun _=>0) j=(((if j<a then comp K H B j else H j):Nat):Int),fun e=>(8 - e.i.getD 0 0).toNat,
  ⟨0,A0,_,rfl,fun _ _=>rfl,fun _ _=>rfl,0,by omega,rfl,fun j hj=>?_,fun j hj=>?_⟩,?_⟩
 ·simp only [ah,List.getD_cons_succ];unfold aw
  match j,hj with
  | 0,_=>rfl
  | 1,_=>rfl
  | 2,_=>rfl
  | 3,_=>rfl
  | 4,_=>rfl
  | 5,_=>rfl
  | 6,_=>rfl
  | 7,_=>rfl
 ·simp only [ah];rw [if_neg (by omega)];exact vV j hj
 rintro bT A5 A6 ⟨a,ha,hx,h6,h5⟩;simp only [List.cons.injEq,and_true]at hx;subst hx;simp only [ah,List.getD_cons_succ]at h6 h5;refine⟨fun cF=>⟨by omega,fun _=>⟨by omega,fun _=>⟨by omega,fun _=>?_⟩⟩⟩,fun mn=>?_⟩
 ·refine⟨(a:Int)+1,_,A6,rfl,fun _ _=>rfl,fun _ _=>rfl,⟨a+1,by omega,rfl,h6,fun j hj=>?_⟩,?_⟩
  ·simp only [ah];rw [auD];unfold aw;by_cases hja:j=a
   ·subst hja;rw [if_pos rfl,if_pos (by omega),h5 j hj,h6 j hj,if_neg (by omega),sj,hc]
   ·rw [if_neg hja,h5 j hj];by_cases h:j<a
    ·rw [if_pos h,if_pos (by omega)]
    ·rw [if_neg h,if_neg (by omega)]
  ·simp only [ah];omega
 have ha8:a=8:=by omega
 subst ha8;refine⟨A5,rfl,rfl,fun j hj=>?_⟩;rw [h5 j hj,if_pos hj]
theorem Ll{f:Nat→Int}{i j:Nat}{x:Int}(h:j≠i):aw f i x j=f j:=by
 unfold aw;rw [if_neg h]
theorem ae8{A:Nat→Int}{C:Nat→Nat}(h: ∀j,j<8→A j=((C j:Nat):Int))(j:Nat)(hj:j<32):
  (aw (aw (aw (aw (aw (aw (aw (aw (aw (aw (aw (aw (aw (aw (aw (aw (aw (aw (aw (aw (aw (aw (aw (aw (aw (aw (aw (aw (aw (aw (aw (aw (fun _=>0) 0 (ae .u8 (ar .shr .u32 (A 0) 24))) 1 (ae .u8 (ar .shr .u32 (A 0) 16))) 2 (ae .u8 (ar .shr .u32 (A 0) 8))) 3 (ae .u8 (ar .shr .u32 (A 0) 0))) 4 (ae .u8 (ar .shr .u32 (A 1) 24))) 5 (ae .u8 (ar .shr .u32 (A 1) 16))) 6 (ae .u8 (ar .shr .u32 (A 1) 8))) 7 (ae .u8 (ar .shr .u32 (A 1) 0))) 8 (ae .u8 (ar .shr .u32 (A 2) 24))) 9 (ae .u8 (ar .shr .u32 (A 2) 16))) 10 (ae .u8 (ar .shr .u32 (A 2) 8))) 11 (ae .u8 (ar .shr .u32 (A 2) 0))) 12 (ae .u8 (ar .shr .u32 (A 3) 24))) 13 (ae .u8 (ar .shr .u32 (A 3) 16))) 14 (ae .u8 (ar .shr .u32 (A 3) 8))) 15 (ae .u8 (ar .shr .u32 (A 3) 0))) 16 (ae .u8 (ar .shr .u32 (A 4) 24))) 17 (ae .u8 (ar .shr .u32 (A 4) 16))) 18 (ae .u8 (ar .shr .u32 (A 4) 8))) 19 (ae .u8 (ar .shr .u32 (A 4) 0))) 20 (ae .u8 (ar .shr .u32 (A 5) 24))) 21 (ae .u8 (ar .shr .u32 (A 5) 16))) 22 (ae .u8 (ar .shr .u32 (A 5) 8))) 23 (ae .u8 (ar .shr .u32 (A 5) 0))) 24 (ae .u8 (ar .shr .u32 (A 6) 24))) 25 (ae .u8 (ar .shr .u32 (A 6) 16))) 26 (ae .u8 (ar .shr .u32 (A 6) 8))) 27 (ae .u8 (ar .shr .u32 (A 6) 0))) 28 (ae .u8 (ar .shr .u32 (A 7) 24))) 29 (ae .u8 (ar .shr .u32 (A 7) 16))) 30 (ae .u8 (ar .shr .u32 (A 7) 8))) 31 (ae .u8 (ar .shr .u32 (A 7) 0))) j=((Sh.bytesOf C j:Nat):Int):=by
 rw [h 0 (by omega),h 1 (by omega),h 2 (by omega),h 3 (by omega),h 4 (by omega),h 5 (by omega),h 6 (by omega),h 7 (by omega)];have:j=0∨j=1∨j=2∨j=3∨j=4∨j=5∨j=6∨j=7∨j=8∨j=9∨j=10∨j=11∨j=12∨j=13∨j=14∨j=15∨j=16∨j=17∨j=18∨j=19∨j=20∨j=21∨j=22∨j=23∨j=24∨j=25∨j=26∨j=27∨j=28∨j=29∨j=30∨j=31:=by omega
 clear hj h;rcases this with rfl | rfl | rfl | rfl | rfl | rfl | rfl | rfl | rfl | rfl | rfl | rfl | rfl | rfl | rfl | rfl | rfl | rfl | rfl | rfl | rfl | rfl | rfl | rfl | rfl | rfl | rfl | rfl | rfl | rfl | rfl | rfl
 ·exact cb (C 0) 24 (by decide)
 ·exact cb (C 0) 16 (by decide)
 ·exact cb (C 0) 8 (by decide)
 ·exact cb (C 0) 0 (by decide)
 ·exact cb (C 1) 24 (by decide)
 ·exact cb (C 1) 16 (by decide)
 ·exact cb (C 1) 8 (by decide)
 ·exact cb (C 1) 0 (by decide)
 ·exact cb (C 2) 24 (by decide)
 ·exact cb (C 2) 16 (by decide)
 ·exact cb (C 2) 8 (by decide)
 ·exact cb (C 2) 0 (by decide)
 ·exact cb (C 3) 24 (by decide)
 ·exact cb (C 3) 16 (by decide)
 ·exact cb (C 3) 8 (by decide)
 ·exact cb (C 3) 0 (by decide)
 ·exact cb (C 4) 24 (by decide)
 ·exact cb (C 4) 16 (by decide)
 ·exact cb (C 4) 8 (by decide)
 ·exact cb (C 4) 0 (by decide)
 ·exact cb (C 5) 24 (by decide)
 ·exact cb (C 5) 16 (by decide)
 ·exact cb (C 5) 8 (by decide)
 ·exact cb (C 5) 0 (by decide)
 ·exact cb (C 6) 24 (by decide)
 ·exact cb (C 6) 16 (by decide)
 ·exact cb (C 6) 8 (by decide)
 ·exact cb (C 6) 0 (by decide)
 ·exact cb (C 7) 24 (by decide)
 ·exact cb (C 7) 16 (by decide)
 ·exact cb (C 7) 8 (by decide)
 ·exact cb (C 7) 0 (by decide)
end Go.RX.Fm

namespace Go.RX.Fk
open Go Go.RX Go.Proofs Go.Ae Go.RX.Sh Go.RX.Fe Go.RX.Fg Go.RX.Fi Go.RX.Fj Go.Gh
def Ol(m j:Nat):Nat:=m/256^(7 - j)%256
theorem WW(m j:Nat):Ol m j<256:=Nat.mod_lt _ (by decide)
end Go.RX.Fk

namespace Go.RX.Fh
open Go.RX Go.Proofs Go.RX.Fe Go.RX.Fg
noncomputable def cx:Ctx:={T:=TT,FT:=FT,loops:=Fh.loops,br:=Fh.br}
set_option maxRecDepth 100000
open Go Go.RX Go.Proofs Go.Ae Go.RX.Sh Go.RX.Fe Go.RX.Fg Go.Gh
theorem ae9(a n:Nat)(hn:n≤64):ar .shl .u64 (a:Int) (n:Int)=((a*2^n%2^64:Nat):Int):=by
 show ae .u64 ((a:Int)*2^(min (ag (n:Int)) 64))=_;rw [show min (ag (n:Int)) 64=n by rw [auD];omega,show((a:Int)*2^n)=((a*2^n:Nat):Int) by rw [Int.natCast_mul,Int.natCast_pow];rfl,wrap_u64]
end Go.RX.Fh

namespace Go.RX.Sh
open Go.RX Go.RX.Fk
def yu(M:Nat→Nat):Nat→Nat→Nat
 | 0=>H0
 | q+1=>comp K0 (yu M q) (fun i=>M (64*q+i))
theorem JM(M:Nat→Nat): ∀q j,j<8→yu M q j<2^32
 | 0,j,hj=>ae3 j hj
 | _+1,j,_=>WU j
def eu(n:Nat):Nat:=64*((n+8)/64+1)
def lh(n:Nat)(M:Nat→Nat)(j:Nat):Nat:=if j<n then M j else if j=n then 128 else if j<eu n - 8 then 0 else Ol (n*8) (j - (eu n - 8))
theorem Lm{M:Nat→Nat}(hM: ∀j,M j<256)(n j:Nat):lh n M j<256:=by
 unfold lh;split
 ·exact hM j
 split
 ·decide
 split
 ·decide
 ·exact WW _ _
def xu(n:Nat)(M:Nat→Nat):Nat→Nat:=Sh.bytesOf (yu (lh n M) ((n+8)/64+1))
theorem WX(n:Nat)(M:Nat→Nat)(j:Nat):xu n M j<256:=SL _ j
theorem lb{n:Nat}(h:n<2^60)(s:Nat)(hs:s≤64):ae .u8 (ar .shr .u64 (ar .shl .u64 (n:Int) 3) (s:Int))=((n*8/2^s%256:Nat):Int):=by
 have h1:ar .shl .u64 (n:Int) 3=((n*8:Nat):Int):=by
  have:=Fh.ae9 n 3 (by decide);rw [show((3:Nat):Int)=3 from rfl]at this;rw [this];congr 1;omega
 rw [h1,sS .u64 _ s hs,wrap_u8,Nat.shiftRight_eq_div_pow]
theorem abg{n:Nat}(h:n<2^60)(j:Nat)(hj:j<8):
  (aw (aw (aw (aw (aw (aw (aw (aw (fun _=>0) 7 (ae .u8 (ar .shr .u64 (ar .shl .u64 (n:Int) 3) 0))) 6 (ae .u8 (ar .shr .u64 (ar .shl .u64 (n:Int) 3) 8))) 5 (ae .u8 (ar .shr .u64 (ar .shl .u64 (n:Int) 3) 16))) 4 (ae .u8 (ar .shr .u64 (ar .shl .u64 (n:Int) 3) 24))) 3 (ae .u8 (ar .shr .u64 (ar .shl .u64 (n:Int) 3) 32))) 2 (ae .u8 (ar .shr .u64 (ar .shl .u64 (n:Int) 3) 40))) 1 (ae .u8 (ar .shr .u64 (ar .shl .u64 (n:Int) 3) 48))) 0 (ae .u8 (ar .shr .u64 (ar .shl .u64 (n:Int) 3) 56))) j=(Ol (n*8) j:Nat):=by
 unfold Ol
 match j,hj with
 | 0,_=>exact lb h 56 (by decide)
 | 1,_=>exact lb h 48 (by decide)
 | 2,_=>exact lb h 40 (by decide)
 | 3,_=>exact lb h 32 (by decide)
 | 4,_=>exact lb h 24 (by decide)
 | 5,_=>exact lb h 16 (by decide)
 | 6,_=>exact lb h 8 (by decide)
 | 7,_=>exact lb h 0 (by decide)
 | j+8,h=>exact absurd h (by omega)
end Go.RX.Sh

namespace Go.RX
theorem bI.idx{a b:List HP}(idx:List Nat)(iy:idx.Nodup)(h: ∀(j:Nat) x,b[j]? =some x→∃i,idx[j]? =some i∧a[i]? =some x):bI a b:=by
 intro w Fs o;refine o.vE (fun j=>if j<b.length then idx[j]? else some (a.length+(j - b.length))) ?_ ?_
 ·intro j x hx;right;by_cases hj:j<b.length
  ·rw [auu hj]at hx;obtain⟨i,h1,h2⟩:=h j x hx;refine⟨i,by simp only [hj,if_true,h1],?_⟩;rw [auu (aup.1 h2).1];exact h2
  ·rw [auv (by omega)]at hx;refine⟨_,by simp only [hj,if_false];rfl,?_⟩;rw [auv (by omega),Nat.add_sub_cancel_left];exact hx
 ·intro j j' i hj lq _ _;by_cases h1:j<b.length
  ·have hx:b[j]? =some b[j]:=auU h1;obtain⟨i1,q1,q2⟩:=h j _ hx;have Ln:=(aup.1 q2).1;simp only [h1,if_true,q1,auq]at hj;subst hj;by_cases h2:j'<b.length
   ·simp only [h2,if_true]at lq;obtain⟨l1,e1⟩:=aup.1 q1;obtain⟨l2,e2⟩:=aup.1 lq;exact(List.getElem_inj iy).1 (e1.trans e2.symm)
   ·simp only [h2,if_false,auq]at lq;omega
  ·simp only [h1,if_false,auq]at hj;by_cases h2:j'<b.length
   ·have hx:b[j']? =some b[j']:=auU h2;obtain⟨i1,q1,q2⟩:=h j' _ hx;have Ln:=(aup.1 q2).1;simp only [h2,if_true,q1,auq]at lq;omega
   ·simp only [h2,if_false,auq]at lq;omega
theorem bI.at3{a:List HP}{i j k:Nat}{x y z:HP}(hi:a[i]? =some x)(hj:a[j]? =some y)(hk:a[k]? =some z)(hn:[i,j,k].Nodup):bI a [x,y,z]:=by
 refine bI.idx [i,j,k] hn fun m u hu=>?_
 match m,hu with
 | 0,hu=>cases hu;exact⟨i,rfl,hi⟩
 | 1,hu=>cases hu;exact⟨j,rfl,hj⟩
 | 2,hu=>cases hu;exact⟨k,rfl,hk⟩
 | m+3,hu=>simp at hu
end Go.RX
namespace Go.RX.Fm
open Go Go.RX Go.Proofs Go.RX.Sh Go.RX.Fg Go.RX.Fj Go.RX.Fk
set_option maxRecDepth 100000 in
theorem EA:aq auN 46 [] [] (fun r hs=> ∃b:Nat,∃vh vk:V1,∃A B:Nat→Int,r= .pointer (some ⟨b,0,none⟩)∧
  hs=[wh b vh vk,fM vh 8 A,fM vk 64 B]∧(∀j,j<8→A j=((H0 j:Nat):Int))∧∀j,j<64→B j=((K0 j:Nat):Int)):=by
 refine aq.post (p:=fun r hs=> ∃b:Nat,∃vh vk:V1,∃A B:Nat→Int,r= .pointer (some ⟨b,0,none⟩)∧hs[2]? =some (fM vh 8 A)∧hs[12]? =some (fM vk 64 B)∧
  hs[76]? =some (wh b vh vk)∧(∀j,j<8→A j=((H0 j:Nat):Int))∧∀j,j<64→B j=((K0 j:Nat):Int)) ?_ ?_
 rotate_left
 ·rintro r hs ⟨b,vh,vk,A,B,rfl,h1,h2,h3,h4,h5⟩;exact⟨_,bI.at3 h3 h1 h2 (by decide),b,vh,vk,A,B,rfl,rfl,h4,h5⟩
 refine Oj _ ?_;unfold Dk
 intros
 exact⟨_,_,_,_,_,rfl,rfl,rfl,rfl,by decide+kernel,by decide+kernel⟩
theorem yv{B:List HP}{x:Value}(b:Nat)(vh vk:V1)(hx:x.oneCell'=true)(A0 A1:Nat→Int)(K H T:Nat→Nat)(vV: ∀j,j<8→A0 j=(H j:Nat))(hH: ∀j,j<8→H j<2^32)
  (X4: ∀j,j<64→A1 j=(K j:Nat)) (hT: ∀j,T j<256) (hb:bc B (oZ x 64 T)):
  aq auN 98 [.pointer (some ⟨b,0,none⟩),x] ([wh b vh vk,fM vh 8 A0,fM vk 64 A1]++B)
   fun r hs=> ∃A:Nat→Int,r= .tuple #[]∧hs=[wh b vh vk,fM vh 8 A,fM vk 64 A1]++B∧∀j,j<8→A j=((comp K H T j:Nat):Int):=by
 have hm:aq auN 98 [.pointer (some ⟨b,0,none⟩),x] ([wh b vh vk,fM vh 8 A0,fM vk 64 A1]++[oZ x 64 T]) fun r hs=> ∃A:Nat→Int,r= .tuple #[]∧hs=[wh b vh vk,fM vh 8 A,fM vk 64 A1]∧∀j,j<8→A j=((comp K H T j:Nat):Int):=
  Hi b vh vk ⟨x,hx⟩ A0 A1 (fun j=>(T j:Nat)) K H T vV hH X4 (fun _ _=>rfl) (fun j _=>hT j)
 refine aq.post (aq.Co hm ?_ (ae7 hb)) ?_
 ·rintro v hs ⟨A,_,rfl,_⟩ h hh;simp only [List.mem_cons,List.not_mem_nil,or_false]at hh;rcases hh with rfl | rfl | rfl<;>rfl
 ·rintro v hs ⟨yS,⟨A,hr,rfl,hA⟩,rfl⟩;exact⟨_,bI.refl _,A,hr,rfl,hA⟩
theorem SP{z:V1}{r:Nat}{B:Nat→Int}{T:Nat→Nat}(h:64≤r)(hB: ∀j,j<r→B j=(T j:Nat)):bc [aB true 5 1 z.v r (aM r [ay .u8 1 B])] (oZ (aF 1 z.v 0 64 none) 64 T):=by
 have e:aB true 5 1 z.v r (aM r [ay .u8 1 B])=dG true z r T:=by
  unfold dG;rw [nL hB]
 rw [e];have:=bc.part (lo:=0) (hi:=64) (mx:=none) (bc.bytes (v:=z) (n:=r) (T:=T)) (by omega) h (fun _ h=>nomatch h);simpa using this
end Go.RX.Fm
