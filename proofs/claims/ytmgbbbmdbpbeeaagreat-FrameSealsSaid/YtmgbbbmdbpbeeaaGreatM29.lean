/- AES plainly. -/
import Derived.Test.YtmgbbbmdbpbeeaaGreatM28
open Go.IntKind renaming wrap → ae
open Go.Proofs.Tryz renaming prog → ae0
open Int renaming natCast_add → afy, toNat → ag, toNat_natCast → afe
open List renaming append → aeU, getD_cons_succ → aeW, getD_cons_zero → ah, mem_range → afg
open Nat renaming eq_of_testBit_eq → afx, lt_of_lt_of_le → ae_, mod_eq_of_lt → afp, mod_lt → afI, xor_comm → ae7
namespace Go.Ae
def upT:Nat:=247704880781559356684414323119999879637317647180040216102211349143305888774923398537951341803642731683984666991564019150676315804531779449815159115664189418245566988781254625896260912026622159780553349108386186142268315007856282091988200171439146255715840100601167723801170608095743514940052926055042184507632911811387723359914440662207451538163404716729158929845121383729837235901114109841630616474463024741216292666125260571984924724184385554713500007113061044175325657975136216706165622836048350080632971744177780693200859426168487707538171671676645432511882666690861394815764438377708986394032816479809277592321
def V_:Nat:=127727404692115426734198332805968219844573505114629208686901216293690186132462130931675081705992402874744649337146722143913163583643487276303943818893807190013751092806990287370556889600057311714676499800760749547103353651662433367294783190206880884813569237221343399581497263169989195187996008530110587099785212876728548450345268301970899227233349908984604527389233338265073456776979288885037749793268642272576260293033947624555608176220260351415492203342228236466557716880135026471476615524857486394512952861707819425159769229481997196826278555408639803976402068508913166242851432043694978610662015700264484533761
def Y8:Nat:=939374623831894136699086600277250597547650664638770418422125146541797353646788332867483593573384618611044815625336497665827114626705134492515730415652478061620339993830966980270842846318821775850471098591710629241171812800746666233448222972174585295916389942636813666312872914849454985560152530477328703759683306625234997237483834721220409437442253146756845415190424543171129629468776480674528486868811725071010351012234056630775688111116293610821126543142160426617079940511630006820862697466582575257349116925728488930366609138264019883664906661504235885380294353134295748489096855100647154935187045898006656778240
def Y9:Nat:=3566776863222250792575350504665046155069508327501453217101429430621730038043584053371660509702620055860081156466022285956586373576971909210171343659649552507176508005971567067637526818336653057460235767741581454534757369738530565771380035673162616129401273381134793422969875859516904113580246491480877823305346558232134899738800022074717406919707935282309554844169982325935665249148669134080917255765422589041374844979786301241750162074905253618853420688398165348773793897399659421930346683507413494886767272566548764049417490863269423193139537759588741825434151586758978267398985919305201935175793127681620251050240
def sT:Nat:=2869618975290639062594974519597816386035077209210385677284518162336985023502962151465775969507961862820568736543004676439868535775640188584098917533413284844376797297285941524888791401501466624530423689326528054213168201056672989590893583853414110162539122864583953358348775951166211353578440977400428507475679327181038682772945817200201960445064847785221508011893952350688324234443749897213621340677040612747745615276448919507935121141307752692835344166708617454322778699219895865633266409040561742768581056182730443599545881830075941537620590442514083341749674612746994879540562701631131184186066652929592955206755
def up(i:Nat):Nat:=upT/256^i%256
def down(i:Nat):Nat:=V_/256^i%256
def lg(j:Nat):Nat:=Y8/256^j%256
def inv(j:Nat):Nat:=Y9/256^j%256
def sb(j:Nat):Nat:=sT/256^j%256
def qO(a:Nat):Nat:=(2*a%256)^^^(27*(a/128))
def tm:Nat→Nat→Nat→Nat
 | 0,_,_=>0
 | n+1,a,b=>(if b%2=1 then a else 0)^^^tm n (qO a) (b/2)
theorem Ik: ∀i:Fin 255,up (i.val+1)=(up i.val^^^qO (up i.val))∧tm 8 (up i.val) 3=up (i.val+1)∧tm 8 (down i.val) 246=down (i.val+1):=by decide+kernel
theorem Es: ∀i:Fin 256,0<up i.val∧up i.val<256∧0<down i.val∧down i.val<256:=by decide+kernel
theorem yf: ∀i:Fin 255,lg (up i.val)=i.val∧inv (up i.val)=down i.val:=by decide+kernel
theorem BK: ∀j:Fin 256,lg j.val<255∧inv j.val<256∧sb j.val<256∧(j.val=0∨up (lg j.val)=j.val):=by decide+kernel
theorem TF: ∀j:Fin 256,j.val=0∨up ((255 - lg j.val)%255)=inv j.val:=by decide+kernel
theorem QD(a b:Nat)(ha:a<256)(hb:b<256):qO (a^^^b)=(qO a^^^qO b):=by
 have h2:2*(a^^^b)%256=(2*a%256)^^^(2*b%256):=by
  have:=Nat.xor_mod_two_pow (a:=2*a) (b:=2*b) (n:=8);have h1:2*a^^^2*b=2*(a^^^b):=by
   have h:=Nat.shiftLeft_xor_distrib (i:=1) (a:=a) (b:=b);simp only [Nat.shiftLeft_eq,Nat.pow_one]at h;rw [Nat.mul_comm 2 a,Nat.mul_comm 2 b,Nat.mul_comm 2 (a^^^b)];exact h.symm
  rw [h1]at this;exact this
 have hd:(a^^^b)/128=(a/128)^^^(b/128):=Nat.xor_div_two_pow (n:=7);have h27:27*((a^^^b)/128)=(27*(a/128))^^^(27*(b/128)):=by
  rw [hd];have h1:a/128=0∨a/128=1:=by omega
  have h2:b/128=0∨b/128=1:=by omega
  rcases h1 with h1 | h1<;>rcases h2 with h2 | h2<;>rw [h1,h2]<;>rfl
 unfold qO;rw [h2,h27]
 ac_rfl
theorem mF: ∀a:Fin 256,qO a.val<256:=by decide+kernel
theorem BL: ∀a:Fin 256,tm 8 a.val 2=qO a.val∧tm 8 a.val 3=(a.val^^^qO a.val):=by decide+kernel
def rc:Nat→Nat
 | 0=>1
 | n+1=>qO (rc n)
def W(n:Nat)(K:Nat→Nat)(i k:Nat):Nat:=
 if h:i<n∨n=0 then K (4*i+k)else
  W n K (i - n) k^^^(if i%n=0 then sb (W n K (i - 1) ((k+1)%4))^^^(if k=0 then rc (i/n - 1)else 0)else if n=8∧i%8=4 then sb (W n K (i - 1) k)else W n K (i - 1) k)
termination_by i
decreasing_by all_goals omega
theorem oC: ∀n,rc n<256
 | 0=>by decide
 | n+1=>mF ⟨rc n,oC n⟩
theorem aN{a b:Nat}(ha:a<256)(hb:b<256):a^^^b<256:=Nat.xor_lt_two_pow (n:=8) ha hb
theorem iu(j:Nat)(h:j<256):sb j<256:=(BK ⟨j,h⟩).2.2.1
theorem Et(n:Nat)(K:Nat→Nat)(hK: ∀j,K j<256)(i:Nat): ∀k,W n K i k<256:=by
 induction i using Nat.strongRecOn with
 | _ i ih=>
  intro k;rw [W];split
  ·exact hK _
  ·rename_i h;refine aN (ih (i - n) (by omega) k) ?_;split
   ·refine aN (iu _ (ih (i - 1) (by omega) _)) ?_;split
    ·exact oC _
    ·decide
   ·split
    ·exact iu _ (ih (i - 1) (by omega) _)
    ·exact ih (i - 1) (by omega) k
def Gq(s:Nat→Nat)(i:Nat):Nat:=sb (s ((i+4*(i%4))%16))
def Kk(t:Nat→Nat)(i:Nat):Nat:=qO (t i)^^^(t (i/4*4+(i+1)%4)^^^qO (t (i/4*4+(i+1)%4)))^^^t (i/4*4+(i+2)%4)^^^t (i/4*4+(i+3)%4)
def rs(w:Nat→Nat→Nat)(m:Nat)(B:Nat→Nat):Nat→(Nat→Nat)
 | 0=>fun i=>B i^^^w (i/4) (i%4)
 | r+1=>fun i=>(if r+1<m then Kk (Gq (rs w m B r)) i else Gq (rs w m B r) i)^^^w (4*(r+1)+i/4) (i%4)
def enc(n:Nat)(K B:Nat→Nat)(i:Nat):Nat:=rs (W n K) (n+6) B (n+6) i
theorem Il(w:Nat→Nat→Nat)(m:Nat)(B:Nat→Nat)(hw: ∀i k,w i k<256)(hB: ∀j,B j<256): ∀r i,rs w m B r i<256
 | 0,i=>aN (hB _) (hw _ _)
 | r+1,i=>by
  have ih:=Il w m B hw hB r;have hs: ∀i,Gq (rs w m B r) i<256:=fun i=>iu _ (ih _)
  have hd: ∀a,a<256→qO a<256:=fun a h=>mF ⟨a,h⟩
  refine aN ?_ (hw _ _);split
  ·exact aN (aN (aN (hd _ (hs _)) (aN (hs _) (hd _ (hs _)))) (hs _)) (hs _)
  ·exact hs _
theorem rF(n:Nat)(K B:Nat→Nat)(hK: ∀j,K j<256)(hB: ∀j,B j<256)(i:Nat):enc n K B i<256:=Il _ _ _ (fun i k=>Et n K hK i k) hB _ _
end Go.Ae

namespace Go.RX.Sh
open Go.RX
def fj(x n:Nat):Nat:=x/2^n+x*2^(32 - n)%2^32
def s0(x:Nat):Nat:=fj x 7^^^fj x 18^^^x/2^3
def s1(x:Nat):Nat:=fj x 17^^^fj x 19^^^x/2^10
def S0(x:Nat):Nat:=fj x 2^^^fj x 13^^^fj x 22
def S1(x:Nat):Nat:=fj x 6^^^fj x 11^^^fj x 25
def ch(x y z:Nat):Nat:=(x &&& y)^^^((2^32 - 1 - x) &&& z)
def RD(x y z:Nat):Nat:=(x &&& y)^^^(x &&& z)^^^(y &&& z)
def word(B:Nat→Nat)(t:Nat):Nat:=((B (4*t)*256+B (4*t+1))*256+B (4*t+2))*256+B (4*t+3)
def fm(B:Nat→Nat):Nat→Nat→Nat
 | 0=>fun t=>if t<16 then word B t else 0
 | n+1=>fun t=>if t=n+16 then(s1 (fm B n (n+14))+fm B n (n+9)+s0 (fm B n (n+1))+fm B n n)%2^32 else fm B n t
def r8(v:Nat→Nat)(k w:Nat):Nat:=(v 7+S1 (v 4)+ch (v 4) (v 5) (v 6)+k+w)%2^32
def step(v:Nat→Nat)(k w j:Nat):Nat:=
 if j=0 then(r8 v k w+(S0 (v 0)+RD (v 0) (v 1) (v 2))%2^32)%2^32
 else if j=4 then(v 3+r8 v k w)%2^32
 else if j<8 then v (j - 1)else 0
theorem LZ(v:Nat→Nat)(k w:Nat):step v k w 0=(r8 v k w+(S0 (v 0)+RD (v 0) (v 1) (v 2))%2^32)%2^32:=by
 unfold step;rw [if_pos rfl]
theorem L0(v:Nat→Nat)(k w:Nat):step v k w 4=(v 3+r8 v k w)%2^32:=by
 unfold step;rw [if_neg (by decide),if_pos rfl]
theorem ke(v:Nat→Nat)(k w:Nat){j:Nat}(h0:j≠0)(h4:j≠4)(h8:j<8):step v k w j=v (j - 1):=by
 unfold step;rw [if_neg h0,if_neg h4,if_pos h8]
def QE(K W H:Nat→Nat):Nat→Nat→Nat
 | 0=>H
 | n+1=>step (QE K W H n) (K n) (W n)
def comp(K H B:Nat→Nat)(j:Nat):Nat:=(H j+QE K (fm B 48) H 64 j)%2^32
theorem eE{a b n:Nat}(ha:a<2^n)(hb:b<2^n):a^^^b<2^n:=Nat.xor_lt_two_pow ha hb
theorem fc{a b n:Nat}(ha:a<2^n):a &&& b<2^n:=Nat.lt_of_le_of_lt Nat.and_le_left ha
theorem cr{x n:Nat}(hx:x<2^32)(hn:n≤32):fj x n<2^32:=by
 unfold fj;have h1:x*2^(32 - n)%2^32=x%2^n*2^(32 - n):=by
  have:(2:Nat)^32=2^n*2^(32 - n):=by rw [←Nat.pow_add];congr 1;omega
  rw [this,Nat.mul_mod_mul_right]
 rw [h1];have h2:x/2^n<2^(32 - n):=by
  apply Nat.div_lt_of_lt_mul;rw [←Nat.pow_add]
  rwa [show n+(32 - n)=32 by omega]
 have h3:x%2^n<2^n:=afI _ (Nat.two_pow_pos n);have h4:(x%2^n+1)*2^(32 - n)≤2^n*2^(32 - n):=Nat.mul_le_mul_right _ h3;rw [←Nat.pow_add,show n+(32 - n)=32 by omega,Nat.add_mul]at h4;omega
theorem QF{x n:Nat}(hx:x<2^32)(hn:n≤32):(x >>> n)|||(x*2^(32 - n)%2^32)=fj x n:=by
 unfold fj;have h1:x*2^(32 - n)%2^32=2^(32 - n)*(x%2^n):=by
  have:(2:Nat)^32=2^n*2^(32 - n):=by rw [←Nat.pow_add];congr 1;omega
  rw [this,Nat.mul_mod_mul_right,Nat.mul_comm]
 have h2:x/2^n<2^(32 - n):=by
  apply Nat.div_lt_of_lt_mul;rw [←Nat.pow_add]
  rwa [show n+(32 - n)=32 by omega]
 rw [h1,Nat.shiftRight_eq_div_pow,Nat.or_comm,←Nat.two_pow_add_eq_or_of_lt h2,Nat.add_comm]
theorem wrap_u32(n:Nat):ae .u32 (n:Int)=((n%2^32:Nat):Int):=by
 simp [ae,IntKind.signed,IntKind.bits]
theorem wrap_u64(n:Nat):ae .u64 (n:Int)=((n%2^64:Nat):Int):=by
 simp [ae,IntKind.signed,IntKind.bits]
theorem wrap_u8(n:Nat):ae .u8 (n:Int)=((n%2^8:Nat):Int):=by
 simp [ae,IntKind.signed,IntKind.bits]
theorem cu(w n:Nat):(BitVec.ofInt w (n:Int)).toNat=n%2^w:=by
 simp
theorem vf{a b:Nat}(ha:a<2^32)(hb:b<2^32):ak .ay .u32 (a:Int) (b:Int)=((a^^^b:Nat):Int):=by
 show ae .u32 ((BitVec.ofInt 32 (a:Int)^^^BitVec.ofInt 32 (b:Int)).toNat:Int)=_;rw [wrap_u32,BitVec.toNat_xor,cu,cu,afp ha,afp hb,afp (eE ha hb)]
theorem Eu{a b:Nat}(ha:a<2^32)(hb:b<2^32):ak .aP .u32 (a:Int) (b:Int)=((a &&& b:Nat):Int):=by
 show ae .u32 ((BitVec.ofInt 32 (a:Int) &&& BitVec.ofInt 32 (b:Int)).toNat:Int)=_;rw [wrap_u32,BitVec.toNat_and,cu,cu,afp ha,afp hb,afp (fc ha)]
theorem Wa{a b:Nat}(ha:a<2^32)(hb:b<2^32):ak .bR .u32 (a:Int) (b:Int)=((a|||b:Nat):Int):=by
 show ae .u32 ((BitVec.ofInt 32 (a:Int)|||BitVec.ofInt 32 (b:Int)).toNat:Int)=_;rw [wrap_u32,BitVec.toNat_or,cu,cu,afp ha,afp hb,afp (Nat.or_lt_two_pow ha hb)]
theorem HJ{a b:Nat}(ha:a<2^64)(hb:b<2^64):ak .ay .u64 (a:Int) (b:Int)=((a^^^b:Nat):Int):=by
 show ae .u64 ((BitVec.ofInt 64 (a:Int)^^^BitVec.ofInt 64 (b:Int)).toNat:Int)=_;rw [wrap_u64,BitVec.toNat_xor,cu,cu,afp ha,afp hb,afp (eE ha hb)]
theorem HK{a b:Nat}(ha:a<2^64)(hb:b<2^64):ak .aP .u64 (a:Int) (b:Int)=((a &&& b:Nat):Int):=by
 show ae .u64 ((BitVec.ofInt 64 (a:Int) &&& BitVec.ofInt 64 (b:Int)).toNat:Int)=_;rw [wrap_u64,BitVec.toNat_and,cu,cu,afp ha,afp hb,afp (fc ha)]
theorem gg(k:IntKind)(a n:Nat)(hn:n≤k.bits):ak .shr k (a:Int) (n:Int)=((a >>> n:Nat):Int):=by
 show Int.fdiv (a:Int) (2^(min (n:Int).toNat k.bits))=_;rw [afe,Nat.min_eq_left hn,Nat.shiftRight_eq_div_pow,Int.fdiv_eq_ediv_of_nonneg _ (by exact Int.le_of_lt (Int.pow_pos (by decide)))];rw [Int.natCast_ediv,Int.natCast_pow];rfl
theorem R2(a n:Nat)(hn:n≤32):ak .shl .u32 (a:Int) (n:Int)=((a*2^n%2^32:Nat):Int):=by
 show ae .u32 ((a:Int)*2^(min (n:Int).toNat 32))=_;rw [afe,Nat.min_eq_left hn];have:(a:Int)*2^n=((a*2^n:Nat):Int):=by rw [Int.natCast_mul,Int.natCast_pow];rfl
 rw [this,wrap_u32]
theorem Ev{x n:Nat}(hx:x<2^32)(hn:n≤32):ak .bR .u32 (ak .shr .u32 (x:Int) (n:Int)) (ak .shl .u32 (x:Int) ((32 - n:Nat):Int))=((fj x n:Nat):Int):=by
 rw [gg .u32 x n hn,R2 x (32 - n) (by omega),Wa (Nat.lt_of_le_of_lt (by rw [Nat.shiftRight_eq_div_pow];exact Nat.div_le_self _ _) hx) (afI _ (by decide)),QF hx hn]
theorem pV{x n:Nat}(hx:x<2^32):x/2^n<2^32:=Nat.lt_of_le_of_lt (Nat.div_le_self _ _) hx
theorem Wb{x:Nat}(hx:x<2^32):s0 x<2^32:=eE (eE (cr hx (by decide)) (cr hx (by decide))) (pV hx)
theorem Wc{x:Nat}(hx:x<2^32):s1 x<2^32:=eE (eE (cr hx (by decide)) (cr hx (by decide))) (pV hx)
theorem Va{x:Nat}(hx:x<2^32):S0 x<2^32:=eE (eE (cr hx (by decide)) (cr hx (by decide))) (cr hx (by decide))
theorem U9{x:Nat}(hx:x<2^32):S1 x<2^32:=eE (eE (cr hx (by decide)) (cr hx (by decide))) (cr hx (by decide))
theorem U_{x y z:Nat}(hx:x<2^32):ch x y z<2^32:=eE (fc hx) (fc (by omega))
theorem SW{x y z:Nat}(hx:x<2^32)(hy:y<2^32):RD x y z<2^32:=eE (eE (fc hx) (fc hx)) (fc hy)
theorem pS{x a b c:Nat}(hx:x<2^32)(ha:a≤32)(hb:b≤32)(hc:c≤32):
  ak .ay .u32 (ak .ay .u32 (ak .bR .u32 (ak .shr .u32 (x:Int) (a:Int)) (ak .shl .u32 (x:Int) ((32 - a:Nat):Int))) (ak .bR .u32 (ak .shr .u32 (x:Int) (b:Int)) (ak .shl .u32 (x:Int) ((32 - b:Nat):Int))))
   (ak .bR .u32 (ak .shr .u32 (x:Int) (c:Int)) (ak .shl .u32 (x:Int) ((32 - c:Nat):Int)))=((fj x a^^^fj x b^^^fj x c:Nat):Int):=by
 rw [Ev hx ha,Ev hx hb,Ev hx hc,vf (cr hx ha) (cr hx hb),vf (eE (cr hx ha) (cr hx hb)) (cr hx hc)]
theorem ps{x a b c:Nat}(hx:x<2^32)(ha:a≤32)(hb:b≤32)(hc:c≤32):
  ak .ay .u32 (ak .ay .u32 (ak .bR .u32 (ak .shr .u32 (x:Int) (a:Int)) (ak .shl .u32 (x:Int) ((32 - a:Nat):Int))) (ak .bR .u32 (ak .shr .u32 (x:Int) (b:Int)) (ak .shl .u32 (x:Int) ((32 - b:Nat):Int))))
   (ak .shr .u32 (x:Int) (c:Int))=((fj x a^^^fj x b^^^x/2^c:Nat):Int):=by
 rw [Ev hx ha,Ev hx hb,gg .u32 x c hc,vf (cr hx ha) (cr hx hb),Nat.shiftRight_eq_div_pow,vf (eE (cr hx ha) (cr hx hb)) (pV hx)]
theorem Y_{x:Nat}(hx:x<2^32):ak .ay .u32 (ak .ay .u32 (ak .bR .u32 (ak .shr .u32 (x:Int) 7) (ak .shl .u32 (x:Int) 25)) (ak .bR .u32 (ak .shr .u32 (x:Int) 18) (ak .shl .u32 (x:Int) 14))) (ak .shr .u32 (x:Int) 3)=((s0 x:Nat):Int):=
 ps (a:=7) (b:=18) (c:=3) hx (by decide) (by decide) (by decide)
theorem Za{x:Nat}(hx:x<2^32):ak .ay .u32 (ak .ay .u32 (ak .bR .u32 (ak .shr .u32 (x:Int) 17) (ak .shl .u32 (x:Int) 15)) (ak .bR .u32 (ak .shr .u32 (x:Int) 19) (ak .shl .u32 (x:Int) 13))) (ak .shr .u32 (x:Int) 10)=((s1 x:Nat):Int):=
 ps (a:=17) (b:=19) (c:=10) hx (by decide) (by decide) (by decide)
theorem Zb{x:Nat}(hx:x<2^32):ak .ay .u32 (ak .ay .u32 (ak .bR .u32 (ak .shr .u32 (x:Int) 2) (ak .shl .u32 (x:Int) 30)) (ak .bR .u32 (ak .shr .u32 (x:Int) 13) (ak .shl .u32 (x:Int) 19))) (ak .bR .u32 (ak .shr .u32 (x:Int) 22) (ak .shl .u32 (x:Int) 10))=((S0 x:Nat):Int):=
 pS (a:=2) (b:=13) (c:=22) hx (by decide) (by decide) (by decide)
theorem Zc{x:Nat}(hx:x<2^32):ak .ay .u32 (ak .ay .u32 (ak .bR .u32 (ak .shr .u32 (x:Int) 6) (ak .shl .u32 (x:Int) 26)) (ak .bR .u32 (ak .shr .u32 (x:Int) 11) (ak .shl .u32 (x:Int) 21))) (ak .bR .u32 (ak .shr .u32 (x:Int) 25) (ak .shl .u32 (x:Int) 7))=((S1 x:Nat):Int):=
 pS (a:=6) (b:=11) (c:=25) hx (by decide) (by decide) (by decide)
theorem Wd{x:Nat}(hx:x<2^32):(4294967295:Nat)^^^x=2^32 - 1 - x:=by
 have h:=ae7 4294967295 x;apply afx;intro i;rw [Nat.testBit_xor,show(4294967295:Nat)=2^32 - 1 from rfl,Nat.testBit_two_pow_sub_one,show 2^32 - 1 - x=2^32 - (x+1) by omega,Nat.testBit_two_pow_sub_succ hx];by_cases hi:i<32
 ·simp [hi]
 ·have:x.testBit i=false:=Nat.testBit_lt_two_pow (ae_ hx (Nat.pow_le_pow_right (by decide) (by omega)));simp [hi,this]
theorem Zd{x y z:Nat}(hx:x<2^32)(hy:y<2^32)(hz:z<2^32):ak .ay .u32 (ak .aP .u32 (x:Int) (y:Int)) (ak .aP .u32 (ak .ay .u32 4294967295 (x:Int)) (z:Int))=((ch x y z:Nat):Int):=by
 have h1:ak .ay .u32 4294967295 (x:Int)=((2^32 - 1 - x:Nat):Int):=by
  rw [←Wd hx];exact vf (a:=4294967295) (by decide) hx
 rw [h1,Eu hx hy,Eu (by omega) hz,vf (fc hx) (fc (by omega))];rfl
theorem We{x y z:Nat}(hx:x<2^32)(hy:y<2^32)(hz:z<2^32):ak .ay .u32 (ak .ay .u32 (ak .aP .u32 (x:Int) (y:Int)) (ak .aP .u32 (x:Int) (z:Int))) (ak .aP .u32 (y:Int) (z:Int))=((RD x y z:Nat):Int):=by
 rw [Eu hx hy,Eu hx hz,Eu hy hz,vf (fc hx) (fc hx),vf (eE (fc hx) (fc hx)) (fc hy)];rfl
theorem pG(a b:Nat):ae .u32 ((a:Int)+(b:Int))=(((a+b)%2^32:Nat):Int):=by rw [←afy,wrap_u32]
theorem Gr{B:Nat→Nat}(hB: ∀j,j<64→B j<256): ∀(n t:Nat),fm B n t<2^32
 | 0,t=>by
  unfold fm;split
  ·rename_i h;have h0:=hB (4*t) (by omega);have h1:=hB (4*t+1) (by omega);have h2:=hB (4*t+2) (by omega);have h3:=hB (4*t+3) (by omega);unfold word;omega
  ·decide
 | n+1,t=>by
  unfold fm;split
  ·exact afI _ (by decide)
  ·exact Gr hB n t
theorem QG{v:Nat→Nat}(hv: ∀j,j<8→v j<2^32)(k w:Nat)(j:Nat)(hj:j<8):step v k w j<2^32:=by
 have hp:0<2^32:=Nat.two_pow_pos 32;unfold step;split
 ·exact afI _ hp
 ·split
  ·exact afI _ hp
  ·exact hv _ (by omega)
theorem Gs{K W H:Nat→Nat}(hH: ∀j,j<8→H j<2^32): ∀n j,j<8→QE K W H n j<2^32
 | 0=>hH
 | n+1=>QG (Gs hH n) _ _
theorem QH{K H B:Nat→Nat}(j:Nat):comp K H B j<2^32:=afI _ (by decide)
def fill(B:Nat→Nat):Nat→Nat→Nat
 | 0=>fun _=>0
 | i+1=>fun t=>if t=i/4 then(fill B i (i/4)*256%2^32)|||B i else fill B i t
def part(B:Nat→Nat)(t:Nat):Nat→Nat
 | 0=>0
 | k+1=>part B t k*256+B (4*t+k)
theorem Im{B:Nat→Nat}{t:Nat}(hB: ∀j,j<64→B j<256)(ht:t<16): ∀k,k≤4→part B t k<256^k
 | 0,_=>by simp [part]
 | k+1,hk=>by
  have:=Im hB ht k (by omega);have h:=hB (4*t+k) (by omega);unfold part;rw [Nat.pow_succ];omega
theorem uh{B:Nat→Nat}(hB: ∀j,j<64→B j<256): ∀(i t:Nat),i≤64→fill B i t=if 4*t+4≤i then part B t 4 else if 4*t<i then part B t (i - 4*t)else 0
 | 0,t,_=>by
  rw [if_neg (by omega),if_neg (by omega)];rfl
 | i+1,t,hi=>by
  unfold fill;split
  ·rename_i ht;subst ht;have ih:=uh hB i (i/4) (by omega);have hi4:i=4*(i/4)+(i - 4*(i/4)):=by omega
   have hk:i - 4*(i/4)<4:=by omega
   generalize hq:i/4=q at*;obtain⟨k,cX⟩: ∃k,k=i - 4*q:=⟨_,rfl⟩;have Wf:fill B i q=part B q k:=by
    rw [ih,if_neg (by omega)];split
    ·rw [cX]
    ·have:k=0:=by omega
     rw [this];rfl
   have hp:=Im hB (show q<16 by omega) k (by omega);have hb:=hB i (by omega);have acR:(256:Nat)^k≤256^3:=Nat.pow_le_pow_right (by decide) (by omega);rw [Wf,afp (by omega),show part B q k*256=2^8*part B q k by omega,←Nat.two_pow_add_eq_or_of_lt (by omega)];have hpk:2^8*part B q k+B i=part B q (k+1):=by
    rw [part,show 4*q+k=i by omega];omega
   rw [hpk];by_cases h4:4*q+4≤i+1
   ·rw [if_pos h4,show k+1=4 by omega]
   ·rw [if_neg h4,if_pos (by omega),show i+1 - 4*q=k+1 by omega]
  ·rename_i ht;rw [uh hB i t (by omega)];by_cases h4:4*t+4≤i
   ·rw [if_pos h4,if_pos (by omega)]
   ·have h5: ¬4*t<i:=by omega
    rw [if_neg h4,if_neg h5,if_neg (by omega),if_neg (by omega)]
theorem Nb{B:Nat→Nat}(hB: ∀j,j<64→B j<256)(t:Nat):fill B 64 t=fm B 0 t:=by
 rw [uh hB 64 t (Nat.le_refl _)];unfold fm;by_cases ht:t<16
 ·rw [if_pos ht,if_pos (by omega)];simp only [part,word,Nat.add_zero,Nat.zero_mul,Nat.zero_add]
 ·rw [if_neg ht,if_neg (by omega),if_neg (by omega)]
end Go.RX.Sh

namespace Go.RX.Fe
open Go Go.RX Go.Proofs Go.Ae Go.RX.Sh
theorem bP{a b:Nat}(ha:a<256)(hb:b<256):ak .ay .u8 (a:Int) (b:Int)=((a^^^b:Nat):Int):=by
 show ae .u8 ((BitVec.ofInt 8 (a:Int)^^^BitVec.ofInt 8 (b:Int)).toNat:Int)=_;rw [wrap_u8,BitVec.toNat_xor,cu,cu,afp ha,afp hb,afp (eE (n:=8) ha hb)]
theorem Ze: ∀a:Fin 256,ak .ay .u8 (ak .shl .u8 (a.val:Int) 1) (ae .u8 ((ak .shr .u8 (a.val:Int) 7)*27))=((qO a.val:Nat):Int):=by decide+kernel
theorem BM{a:Nat}(h:a<256):ak .ay .u8 (ak .shl .u8 (a:Int) 1) (ae .u8 ((ak .shr .u8 (a:Int) 7)*27))=((qO a:Nat):Int):=Ze ⟨a,h⟩
def Nc(A0 A1:Nat→Int):Prop:=(∀j,j<255→A0 j=(up j:Nat))∧∀j,j<255→A1 (up j)=j
theorem Gt:aw ae0 113 [] [] fun x hs=>(∃A0 A1:Nat→Int,x= .tuple #[.agg (aeU (al .u8 255 A0) ([])).toArray,.agg (aeU (al .i64 256 A1) ([])).toArray]∧Nc A0 A1)∧hs=[]:=by
 refine aw.oa (C:=cx) (bd:={}) (ρ:={}) FE qz FF Tryz.func113 (by constructor<;>rfl) (fun x=> ∃A0 A1:Nat→Int,x= .tuple #[.agg (aeU (al .u8 255 A0) ([])).toArray,.agg (aeU (al .i64 256 A1) ([])).toArray]∧Nc A0 A1)
  (args:=[]) M7 (QA ae0 (fun x _=> ∃A0 A1:Nat→Int,x= .tuple #[.agg (aeU (al .u8 255 A0) ([])).toArray,.agg (aeU (al .i64 256 A1) ([])).toArray]∧Nc A0 A1) (fun _=>LC.none)) ?_
 unfold Ii;intro _ _;refine⟨fun e=> ∃n:Nat,n≤255∧e.i.getD 0 0=n∧e.i.getD 1 0=(up n:Nat)∧(∀j,j<n→(e.a.getD 0 fun _=>0) j=(up j:Nat))∧∀j,j<n→(e.a.getD 1 fun _=>0) (up j)=j,fun e=>((255:Int) - e.i.getD 0 0).toNat,⟨0,1,fun _=>0,fun _=>0,rfl,rfl,fun _ _=>rfl,fun _ _=>rfl,0,by omega,rfl,rfl,fun j hj=>by omega,fun j hj=>by omega⟩,?_⟩;rintro x0 x1 A0 A1 ⟨n,hn,h0,h1,hA,hB⟩;simp only [ah,aeW]at h0 h1 hA hB;subst h0 h1;refine⟨fun bU=>?_,fun bU=>?_⟩
 ·have Mu:n<255:=by omega
  have hr:=Es ⟨n,by omega⟩;simp only at hr
  iterate 5 refine⟨by omega,fun _=>?_⟩
  have hs:=(Ik ⟨n,Mu⟩).1;simp only at hs;refine⟨n+1,(up (n+1):Nat),_,_,rfl,?_,fun _ _=>rfl,fun _ _=>rfl,⟨n+1,by omega,rfl,rfl,?_,?_⟩,?_⟩
  ·rw [BM hr.2.1,bP hr.2.1 (mF ⟨_,hr.2.1⟩),hs]
  all_goals (try simp only [ah,aeW,afe])
  ·intro j hj;unfold aq;split
   ·rename_i h;rw [h]
   ·exact hA j (by omega)
  ·intro j hj;have hl:=(yf ⟨j,by omega⟩).1;have XB:=(yf ⟨n,Mu⟩).1;simp only at hl XB;unfold aq;split
   ·rename_i h;rw [h]at hl;omega
   ·rename_i h;refine hB j ?_;have:j≠n:=fun e=>h (by rw [e])
    omega
  ·omega
 ·obtain rfl:n=255:=by omega
  exact⟨A0,A1,rfl,hA,hB⟩
def Zf(y:Int):Int:=
 let r (z:Int):Int:=ak .bR .u8 (ak .shl .u8 z 1) (ak .shr .u8 z 7)
 ak .ay .u8 (ak .ay .u8 (ak .ay .u8 (ak .ay .u8 (ak .ay .u8 99 y) (r y)) (r (r y))) (r (r (r y)))) (r (r (r (r y))))
theorem TG: ∀j:Fin 256,Zf (inv j.val:Nat)=(sb j.val:Nat):=by decide+kernel
theorem ni:aw ae0 90 [] [] fun x hs=>(∃A:Nat→Int,x= .agg (aeU (al .u8 256 A) ([])).toArray∧∀j,j<256→A j=(sb j:Nat))∧hs=[]:=by
 refine aw.oa (C:=cx) (bd:={}) (ρ:={}) FE qz FF Tryz.func90 (by constructor<;>rfl) (fun x=> ∃A:Nat→Int,x= .agg (aeU (al .u8 256 A) ([])).toArray∧∀j,j<256→A j=(sb j:Nat))
  (args:=[]) QB (TE ae0 (fun x _=> ∃A:Nat→Int,x= .agg (aeU (al .u8 256 A) ([])).toArray∧∀j,j<256→A j=(sb j:Nat)) (fun _=>LC.none)) ?_
 unfold wQ;intro _;refine⟨_,Gt,?_⟩;rintro x hs ⟨⟨A0,A1,rfl,hP,hL⟩,rfl⟩;refine⟨A0,A1,rfl,rfl,?_⟩;intro _ _ _;refine⟨fun e=> ∃n:Nat,n≤256∧e.i.getD 0 0=n∧∀j,j<n→(e.a.getD 0 fun _=>0) j=(sb j:Nat),fun e=>((256:Int) - e.i.getD 0 0).toNat,⟨0,fun _=>0,rfl,fun _ _=>rfl,0,by omega,rfl,fun j hj=>by omega⟩,?_⟩;rintro x0 A2 ⟨n,hn,h0,hA⟩;simp only [ah]at h0 hA;subst h0;have put: ∀v:Int,n<256→v=(sb n:Nat)→∀j,j<n+1→aq A2 n v j=(sb j:Nat):=by
  intro v _ hv j hj;unfold aq;split
  ·rename_i h;rw [h,hv]
  ·exact hA j (by omega)
 refine⟨fun bU=>⟨fun qx=>?_,fun qx=>?_⟩,fun bU=>?_⟩
 ·have Mu:n<256:=by omega
  have hl:=BK ⟨n,Mu⟩;simp only at hl;have qP:A1 n=(lg n:Nat):=by
   have h:=hL (lg n) hl.1;rcases hl.2.2.2 with hz | hu
   ·omega
   ·rw [hu]at h;exact h
  simp only [afe];rw [qP];have yg:ak .rem .i64 (255 - ((lg n:Nat):Int)) 255=(((255 - lg n)%255:Nat):Int):=by
   simp only [ak];rw [Int.tmod_eq_emod_of_nonneg (by omega)];omega
  rw [yg];have TH:(255 - lg n)%255<255:=afI _ (by decide)
  iterate 7 refine⟨by omega,fun _=>?_⟩
  simp only [afe];rw [hP _ TH];have hi:=TF ⟨n,Mu⟩;simp only at hi;have mi:up ((255 - lg n)%255)=inv n:=by rcases hi with hi | hi;omega;exact hi
  rw [mi];refine⟨n+1,_,rfl,fun _ _=>rfl,⟨n+1,by omega,rfl,?_⟩,?_⟩
  ·simp only [ah];exact put _ Mu (TG ⟨n,Mu⟩)
  ·simp only [ah];omega
 ·obtain rfl:n=0:=by omega
  iterate 3 refine⟨by omega,fun _=>?_⟩
  refine⟨1,_,rfl,fun _ _=>rfl,⟨1,by omega,rfl,?_⟩,?_⟩
  ·simp only [ah];exact put 99 (by omega) (by decide+kernel)
  ·simp only [ah];omega
 ·obtain rfl:n=256:=by omega
  exact⟨A2,rfl,hA⟩
open Go Go.RX Go.Proofs Go.Ae Go.RX.Sh
def cw(n:Nat)(K:Nat→Nat):Nat→Int:=fun j=>(W n K (j/4) (j%4):Nat)
def dz(b:Nat)(v:V1):HP:=ax b true (aeU (al .u8 256 fun j=>(sb j:Nat)) [v.v])
def gZ(v:V1)(n:Nat)(K:Nat→Nat):HP:=aE true 177 4 v.v (4*(n+7)) (aQ (4*(n+7)) [aO .u8 4 (cw n K)])
def Nd(v:V1)(n:Nat)(K:Nat→Nat):HP:=aE false 5 1 v.v (4*n) (aQ (4*n) [aO .u8 1 fun j=>(K j:Nat)])
theorem yh{n:Nat}{f g:Nat→Int}(h: ∀j,j<4*n→f j=g j):aQ n [aO .u8 4 f]=aQ n [aO .u8 4 g]:=by
 unfold aQ;have: ∀i∈List.range n,([aO .u8 4 f].flatMap fun c=>c i)=([aO .u8 4 g].flatMap fun c=>c i):=by
  intro i hi;rw [afg]at hi;simp only [List.flatMap_cons,List.flatMap_nil,List.append_nil,aO];exact bF .u8 4 fun j hj=>h (i*4+j) (by omega)
 rw [List.flatMap_def,List.flatMap_def,List.map_congr_left this]
theorem Io(n:Nat)(K:Nat→Nat){A2:Nat→Int}{i:Nat}(hA: ∀j,j<4*i→A2 j=cw n K j)(d:Nat)(hd:0<d)(hdi:d≤i)(k:Nat)(hk:k<4):aA A2 (ag (((i:Int) - (d:Int))*4)) k=(W n K (i - d) k:Nat):=by
 unfold aA;rw [show ag (((i:Int) - (d:Int))*4)=4*(i - d) by omega,hA _ (by omega)];unfold cw;rw [show(4*(i - d)+k)/4=i - d by omega,show(4*(i - d)+k)%4=k by omega]
theorem Gu(n:Nat)(K:Nat→Nat){A2:Nat→Int}{i:Nat}(hA: ∀j,j<4*i→A2 j=cw n K j)(w:Nat→Int)(hw: ∀k,k<4→w k=(W n K i k:Nat)):
  ∀j,j<4*(i+1)→aI A2 (ag ((i:Int)*4)) 4 w j=cw n K j:=by
 intro j hj;unfold aI;rw [show ag ((i:Int)*4)=4*i by omega];split
 ·rename_i h;rw [hw (j - 4*i) (by omega)];unfold cw;rw [show j/4=i by omega,show j%4=j - 4*i by omega]
 ·exact hA j (by omega)
theorem four(w:Nat→Int)(a b c d:Int)(f:Nat→Nat)(h0:a=(f 0:Nat))(h1:b=(f 1:Nat))(h2:c=(f 2:Nat))(h3:d=(f 3:Nat)): ∀k,k<4→aq (aq (aq (aq w 0 a) 1 b) 2 c) 3 d k=(f k:Nat):=by
 intro k hk;have:k=0∨k=1∨k=2∨k=3:=by omega
 rcases this with rfl | rfl | rfl | rfl
 ·exact h0
 ·exact h1
 ·exact h2
 ·exact h3
theorem R3(n:Nat)(K:Nat→Nat){i:Nat}(h:i<n)(k:Nat):W n K i k=K (4*i+k):=by rw [W,dif_pos (.inl h)]
theorem pH(n:Nat)(K:Nat→Nat)(hn:0<n){i:Nat}(h: ¬i<n)(hz:i%n=0)(k:Nat):W n K i k=W n K (i - n) k^^^(sb (W n K (i - 1) ((k+1)%4))^^^(if k=0 then rc (i/n - 1)else 0)):=by
 conv=>lhs;rw [W]
 rw [dif_neg (by omega),if_pos hz]
theorem BN(K:Nat→Nat){i:Nat}(h: ¬i<8)(hz:i%8=4)(k:Nat):W 8 K i k=W 8 K (i - 8) k^^^sb (W 8 K (i - 1) k):=by
 conv=>lhs;rw [W]
 rw [dif_neg (by omega),if_neg (by omega),if_pos ⟨rfl,hz⟩]
theorem lX(n:Nat)(K:Nat→Nat)(hn:0<n){i:Nat}(h: ¬i<n)(hz:i%n≠0)(h4: ¬(n=8∧i%8=4))(k:Nat):W n K i k=W n K (i - n) k^^^W n K (i - 1) k:=by
 conv=>lhs;rw [W]
 rw [dif_neg (by omega),if_neg hz,if_neg h4]
theorem wH(i n:Nat):ak .rem .i64 (i:Int) (n:Int)=((i%n:Nat):Int):=by
 simp only [ak];rw [Int.tmod_eq_emod_of_nonneg (by omega)];omega
def Kl(v:V1)(n:Nat)(K:Nat→Nat)(x:Value)(hs:List HP):Prop:= ∃(b:Nat) (w:V1),x= .tuple #[.pointer (some ⟨b,0,none⟩),.int .i64 0]∧hs=[Nd v n K,dz b w,gZ w n K]
theorem pI(v:V1)(K:Nat→Nat)(hK: ∀j,K j<256):aw ae0 60 [v.v] [Nd v 4 K] (Kl v 4 K):=by
 have h:=aw.kJ (C:=cx) (bd:={a:=1,v:=1}) (ρ:={av:=[fun j=>(K j:Nat)],vv:=[v]}) FE qz FF Tryz.func60 (by constructor<;>rfl)
  (ar:=fun x hs=>Kl v 4 K x (hs.take 3)) (args:=[.vv 0]) (hp:=[.bC false 0 5 1 (.lit 16) [⟨.int .u8,1,.aL 0⟩]]) Ki
  (M9 ae0 (Kl v 4 K) (fun j=>(K j:Nat)) v (fun _=>LC.none)) ?_
 ·exact aw.post h fun x hs hq=>⟨hs.take 3,bX.sub (List.take_sublist 3 hs),hq⟩
 unfold Eo;refine⟨_,ni,?_⟩;rintro x hs ⟨⟨A1,rfl,hS⟩,rfl⟩;refine⟨A1,rfl,rfl,?_⟩;intro b0;refine⟨fun e=> ∃i:Nat,i≤44∧e.i.getD 0 0=i∧e.i.getD 1 0=(rc ((i - 1)/4):Nat)∧∀j,j<4*i→(e.a.getD 0 fun _=>0) j=cw 4 K j,fun e=>((44:Int) - e.i.getD 0 0).toNat,⟨⟨.slice none 0 0,rfl⟩,0,1,fun _=>0,rfl,rfl,rfl,rfl,rfl,fun _ _=>rfl,0,by omega,rfl,by simp [rc],fun j hj=>by omega⟩,?_⟩;rintro w x0 x1 A2 ⟨i,hi,h0,h1,hA⟩;simp only [ah,aeW]at h0 h1 hA;subst h0 h1;have hW:=Et 4 K hK;refine⟨fun bU=>⟨fun hk=>?_,fun hk=>?_⟩,fun bU=>?_⟩
 ·repeat (first | (intro _) | (refine⟨by omega,fun _=>?_⟩))
  rename_i v3 _ _;refine⟨v3,i+1,_,_,rfl,rfl,rfl,rfl,rfl,fun _ _=>rfl,⟨i+1,by omega,rfl,?_,?_⟩,?_⟩
  all_goals (try simp only [ah,aeW])
  ·rw [show(i - 1)/4=(i+1 - 1)/4 by omega]
  ·refine Gu 4 K hA _ fun k QI=>?_
   rw [R3 4 K (by omega)];unfold aA;rw [show ag (4*(i:Int))=4*i by omega]
  ·omega
 ·have z: ∀k,k<4→aA A2 (ag (((i:Int) - 1)*4)) k=(W 4 K (i - 1) k:Nat):=fun k QI=>Io 4 K hA 1 (by omega) (by omega) k QI
  have y: ∀k,k<4→aA A2 (ag (((i:Int) - 4)*4)) k=(W 4 K (i - 4) k:Nat):=fun k QI=>Io 4 K hA 4 (by omega) (by omega) k QI
  have s: ∀k,A1 (W 4 K (i - 1) k)=(sb (W 4 K (i - 1) k):Nat):=fun k=>hS _ (hW _ _)
  have sl: ∀k,sb (W 4 K (i - 1) k)<256:=fun k=>iu _ (hW _ _)
  have Zg:ak .rem .i64 (i:Int) 4=((i%4:Nat):Int):=wH i 4;have w0:=hW (i - 1) 0;have w1:=hW (i - 1) 1;have w2:=hW (i - 1) 2;have w3:=hW (i - 1) 3;have QJ:=oC ((i - 1)/4);simp only [z 0 (by decide),z 1 (by decide),z 2 (by decide),z 3 (by decide),y 0 (by decide),y 1 (by decide),y 2 (by decide),y 3 (by decide),afe,s]
  iterate 4 refine⟨by omega,fun _=>?_⟩
  intro _;rw [Zg];refine⟨fun hz=>?_,fun hz=>?_⟩
  ·repeat (first | (intro _) | (refine⟨by omega,fun _=>?_⟩))
   rename_i v3 _ _;have e1:(i - 1)/4=i/4 - 1:=by omega
   refine⟨v3,i+1,_,_,rfl,rfl,rfl,rfl,rfl,fun _ _=>rfl,⟨i+1,by omega,rfl,?_,?_⟩,?_⟩
   all_goals (try simp only [ah,aeW])
   ·rw [BM QJ,show(i+1 - 1)/4=(i - 1)/4+1 by omega];rfl
   ·refine Gu 4 K hA _ (four _ _ _ _ _ _ ?_ ?_ ?_ ?_)
    ·rw [bP (sl 1) QJ,bP (aN (sl 1) QJ) (hW _ _),pH 4 K (by omega) (i:=i) (by omega) (by omega) 0,if_pos rfl,←e1,ae7]
    ·rw [bP (sl 2) (hW _ _),pH 4 K (by omega) (i:=i) (by omega) (by omega) 1,if_neg (by omega),Nat.xor_zero,ae7]
    ·rw [bP (sl 3) (hW _ _),pH 4 K (by omega) (i:=i) (by omega) (by omega) 2,if_neg (by omega),Nat.xor_zero,ae7]
    ·rw [bP (sl 0) (hW _ _),pH 4 K (by omega) (i:=i) (by omega) (by omega) 3,if_neg (by omega),Nat.xor_zero,ae7]
   ·omega
  ·repeat (first | (intro _) | (refine⟨by omega,fun _=>?_⟩))
   rename_i v3 _ _;refine⟨v3,i+1,_,_,rfl,rfl,rfl,rfl,rfl,fun _ _=>rfl,⟨i+1,by omega,rfl,?_,?_⟩,?_⟩
   all_goals (try simp only [ah,aeW])
   ·rw [show(i - 1)/4=(i+1 - 1)/4 by omega]
   ·refine Gu 4 K hA _ (four _ _ _ _ _ _ ?_ ?_ ?_ ?_)
    ·rw [bP (hW _ _) (hW _ _),lX 4 K (by omega) (i:=i) (by omega) (by omega) (by omega) 0,ae7]
    ·rw [bP (hW _ _) (hW _ _),lX 4 K (by omega) (i:=i) (by omega) (by omega) (by omega) 1,ae7]
    ·rw [bP (hW _ _) (hW _ _),lX 4 K (by omega) (i:=i) (by omega) (by omega) (by omega) 2,ae7]
    ·rw [bP (hW _ _) (hW _ _),lX 4 K (by omega) (i:=i) (by omega) (by omega) (by omega) 3,ae7]
   ·omega
 ·obtain rfl:i=44:=by omega
  refine⟨b0,w,rfl,?_⟩;have e1:al .u8 256 A1=al .u8 256 fun j=>(sb j:Nat):=bF .u8 256 hS
  have e2:aQ (ag ((44:Nat):Int)) [aO .u8 4 A2]=aQ (4*(4+7)) [aO .u8 4 (cw 4 K)]:=yh (n:=44) hA;rw [e1,e2];rfl
theorem vg(v:V1)(K:Nat→Nat)(hK: ∀j,K j<256):aw ae0 60 [v.v] [Nd v 8 K] (Kl v 8 K):=by
 have h:=aw.kJ (C:=cx) (bd:={a:=1,v:=1}) (ρ:={av:=[fun j=>(K j:Nat)],vv:=[v]}) FE qz FF Tryz.func60 (by constructor<;>rfl)
  (ar:=fun x hs=>Kl v 8 K x (hs.take 3)) (args:=[.vv 0]) (hp:=[.bC false 0 5 1 (.lit 32) [⟨.int .u8,1,.aL 0⟩]]) Kj
  (M_ ae0 (Kl v 8 K) (fun j=>(K j:Nat)) v (fun _=>LC.none)) ?_
 ·exact aw.post h fun x hs hq=>⟨hs.take 3,bX.sub (List.take_sublist 3 hs),hq⟩
 unfold Er;refine⟨_,ni,?_⟩;rintro x hs ⟨⟨A1,rfl,hS⟩,rfl⟩;refine⟨A1,rfl,rfl,?_⟩;intro b0;refine⟨fun e=> ∃i:Nat,i≤60∧e.i.getD 0 0=i∧e.i.getD 1 0=(rc ((i - 1)/8):Nat)∧∀j,j<4*i→(e.a.getD 0 fun _=>0) j=cw 8 K j,fun e=>((60:Int) - e.i.getD 0 0).toNat,⟨⟨.slice none 0 0,rfl⟩,0,1,fun _=>0,rfl,rfl,rfl,rfl,rfl,fun _ _=>rfl,0,by omega,rfl,by simp [rc],fun j hj=>by omega⟩,?_⟩;rintro w x0 x1 A2 ⟨i,hi,h0,h1,hA⟩;simp only [ah,aeW]at h0 h1 hA;subst h0 h1;have hW:=Et 8 K hK;refine⟨fun bU=>⟨fun hk=>?_,fun hk=>?_⟩,fun bU=>?_⟩
 ·repeat (first | (intro _) | (refine⟨by omega,fun _=>?_⟩))
  rename_i v3 _ _;refine⟨v3,i+1,_,_,rfl,rfl,rfl,rfl,rfl,fun _ _=>rfl,⟨i+1,by omega,rfl,?_,?_⟩,?_⟩
  all_goals (try simp only [ah,aeW])
  ·rw [show(i - 1)/8=(i+1 - 1)/8 by omega]
  ·refine Gu 8 K hA _ fun k QI=>?_
   rw [R3 8 K (by omega)];unfold aA;rw [show ag (4*(i:Int))=4*i by omega]
  ·omega
 ·have z: ∀k,k<4→aA A2 (ag (((i:Int) - 1)*4)) k=(W 8 K (i - 1) k:Nat):=fun k QI=>Io 8 K hA 1 (by omega) (by omega) k QI
  have y: ∀k,k<4→aA A2 (ag (((i:Int) - 8)*4)) k=(W 8 K (i - 8) k:Nat):=fun k QI=>Io 8 K hA 8 (by omega) (by omega) k QI
  have s: ∀k,A1 (W 8 K (i - 1) k)=(sb (W 8 K (i - 1) k):Nat):=fun k=>hS _ (hW _ _)
  have sl: ∀k,sb (W 8 K (i - 1) k)<256:=fun k=>iu _ (hW _ _)
  have Zg:ak .rem .i64 (i:Int) 8=((i%8:Nat):Int):=wH i 8;have w0:=hW (i - 1) 0;have w1:=hW (i - 1) 1;have w2:=hW (i - 1) 2;have w3:=hW (i - 1) 3;have QJ:=oC ((i - 1)/8);simp only [z 0 (by decide),z 1 (by decide),z 2 (by decide),z 3 (by decide),y 0 (by decide),y 1 (by decide),y 2 (by decide),y 3 (by decide),afe,s]
  iterate 4 refine⟨by omega,fun _=>?_⟩
  intro _;rw [Zg];refine⟨fun hz=>?_,fun hz=>?_⟩
  ·repeat (first | (intro _) | (refine⟨by omega,fun _=>?_⟩))
   rename_i v3 _ _;have e1:(i - 1)/8=i/8 - 1:=by omega
   refine⟨v3,i+1,_,_,rfl,rfl,rfl,rfl,rfl,fun _ _=>rfl,⟨i+1,by omega,rfl,?_,?_⟩,?_⟩
   all_goals (try simp only [ah,aeW])
   ·rw [BM QJ,show(i+1 - 1)/8=(i - 1)/8+1 by omega];rfl
   ·refine Gu 8 K hA _ (four _ _ _ _ _ _ ?_ ?_ ?_ ?_)
    ·rw [bP (sl 1) QJ,bP (aN (sl 1) QJ) (hW _ _),pH 8 K (by omega) (i:=i) (by omega) (by omega) 0,if_pos rfl,←e1,ae7]
    ·rw [bP (sl 2) (hW _ _),pH 8 K (by omega) (i:=i) (by omega) (by omega) 1,if_neg (by omega),Nat.xor_zero,ae7]
    ·rw [bP (sl 3) (hW _ _),pH 8 K (by omega) (i:=i) (by omega) (by omega) 2,if_neg (by omega),Nat.xor_zero,ae7]
    ·rw [bP (sl 0) (hW _ _),pH 8 K (by omega) (i:=i) (by omega) (by omega) 3,if_neg (by omega),Nat.xor_zero,ae7]
   ·omega
  ·refine⟨fun hz4=>?_,fun hz4=>?_⟩
   ·repeat (first | (intro _) | (refine⟨by omega,fun _=>?_⟩))
    rename_i v3 _ _;refine⟨v3,i+1,_,_,rfl,rfl,rfl,rfl,rfl,fun _ _=>rfl,⟨i+1,by omega,rfl,?_,?_⟩,?_⟩
    all_goals (try simp only [ah,aeW])
    ·rw [show(i - 1)/8=(i+1 - 1)/8 by omega]
    ·refine Gu 8 K hA _ (four _ _ _ _ _ _ ?_ ?_ ?_ ?_)
     ·rw [bP (sl 0) (hW _ _),BN K (i:=i) (by omega) (by omega) 0,ae7]
     ·rw [bP (sl 1) (hW _ _),BN K (i:=i) (by omega) (by omega) 1,ae7]
     ·rw [bP (sl 2) (hW _ _),BN K (i:=i) (by omega) (by omega) 2,ae7]
     ·rw [bP (sl 3) (hW _ _),BN K (i:=i) (by omega) (by omega) 3,ae7]
    ·omega
   ·repeat (first | (intro _) | (refine⟨by omega,fun _=>?_⟩))
    rename_i v3 _ _;refine⟨v3,i+1,_,_,rfl,rfl,rfl,rfl,rfl,fun _ _=>rfl,⟨i+1,by omega,rfl,?_,?_⟩,?_⟩
    all_goals (try simp only [ah,aeW])
    ·rw [show(i - 1)/8=(i+1 - 1)/8 by omega]
    ·refine Gu 8 K hA _ (four _ _ _ _ _ _ ?_ ?_ ?_ ?_)
     ·rw [bP (hW _ _) (hW _ _),lX 8 K (by omega) (i:=i) (by omega) (by omega) (by omega) 0,ae7]
     ·rw [bP (hW _ _) (hW _ _),lX 8 K (by omega) (i:=i) (by omega) (by omega) (by omega) 1,ae7]
     ·rw [bP (hW _ _) (hW _ _),lX 8 K (by omega) (i:=i) (by omega) (by omega) (by omega) 2,ae7]
     ·rw [bP (hW _ _) (hW _ _),lX 8 K (by omega) (i:=i) (by omega) (by omega) (by omega) 3,ae7]
    ·omega
 ·obtain rfl:i=60:=by omega
  refine⟨b0,w,rfl,?_⟩;have e1:al .u8 256 A1=al .u8 256 fun j=>(sb j:Nat):=bF .u8 256 hS
  have e2:aQ (ag ((60:Nat):Int)) [aO .u8 4 A2]=aQ (4*(8+7)) [aO .u8 4 (cw 8 K)]:=yh (n:=60) hA;rw [e1,e2];rfl
end Go.RX.Fe
