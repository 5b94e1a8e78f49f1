/- AES plainly. -/
import Derived.Test.YtmgbbbmdbpbeeaaFeF
import Derived.Test.YtmgbbbmdbpbeeaaM29
open Go.IntKind renaming wrap → ae
open Go.Proofs.Try renaming prog → adE
open Int renaming toNat → ag
open List renaming append → ads, getD_cons_succ → adx, getD_cons_zero → ah, mem_range → adZ
open Nat renaming mod_eq_of_lt → adQ, xor_comm → ad5
namespace Go.Ae
def upT:Nat:=247704880781559356684414323119999879637317647180040216102211349143305888774923398537951341803642731683984666991564019150676315804531779449815159115664189418245566988781254625896260912026622159780553349108386186142268315007856282091988200171439146255715840100601167723801170608095743514940052926055042184507632911811387723359914440662207451538163404716729158929845121383729837235901114109841630616474463024741216292666125260571984924724184385554713500007113061044175325657975136216706165622836048350080632971744177780693200859426168487707538171671676645432511882666690861394815764438377708986394032816479809277592321
def U6:Nat:=127727404692115426734198332805968219844573505114629208686901216293690186132462130931675081705992402874744649337146722143913163583643487276303943818893807190013751092806990287370556889600057311714676499800760749547103353651662433367294783190206880884813569237221343399581497263169989195187996008530110587099785212876728548450345268301970899227233349908984604527389233338265073456776979288885037749793268642272576260293033947624555608176220260351415492203342228236466557716880135026471476615524857486394512952861707819425159769229481997196826278555408639803976402068508913166242851432043694978610662015700264484533761
def XR:Nat:=939374623831894136699086600277250597547650664638770418422125146541797353646788332867483593573384618611044815625336497665827114626705134492515730415652478061620339993830966980270842846318821775850471098591710629241171812800746666233448222972174585295916389942636813666312872914849454985560152530477328703759683306625234997237483834721220409437442253146756845415190424543171129629468776480674528486868811725071010351012234056630775688111116293610821126543142160426617079940511630006820862697466582575257349116925728488930366609138264019883664906661504235885380294353134295748489096855100647154935187045898006656778240
def XS:Nat:=3566776863222250792575350504665046155069508327501453217101429430621730038043584053371660509702620055860081156466022285956586373576971909210171343659649552507176508005971567067637526818336653057460235767741581454534757369738530565771380035673162616129401273381134793422969875859516904113580246491480877823305346558232134899738800022074717406919707935282309554844169982325935665249148669134080917255765422589041374844979786301241750162074905253618853420688398165348773793897399659421930346683507413494886767272566548764049417490863269423193139537759588741825434151586758978267398985919305201935175793127681620251050240
def sT:Nat:=2869618975290639062594974519597816386035077209210385677284518162336985023502962151465775969507961862820568736543004676439868535775640188584098917533413284844376797297285941524888791401501466624530423689326528054213168201056672989590893583853414110162539122864583953358348775951166211353578440977400428507475679327181038682772945817200201960445064847785221508011893952350688324234443749897213621340677040612747745615276448919507935121141307752692835344166708617454322778699219895865633266409040561742768581056182730443599545881830075941537620590442514083341749674612746994879540562701631131184186066652929592955206755
def up(i:Nat):Nat:=upT/256^i%256
def down(i:Nat):Nat:=U6/256^i%256
def lg(j:Nat):Nat:=XR/256^j%256
def inv(j:Nat):Nat:=XS/256^j%256
def sb(j:Nat):Nat:=sT/256^j%256
def yp(a:Nat):Nat:=(2*a%256)^^^(27*(a/128))
def tm:Nat→Nat→Nat→Nat
 | 0,_,_=>0
 | n+1,a,b=>(if b%2=1 then a else 0)^^^tm n (yp a) (b/2)
theorem PL: ∀i:Fin 255,up (i.val+1)=(up i.val^^^yp (up i.val))∧tm 8 (up i.val) 3=up (i.val+1)∧tm 8 (down i.val) 246=down (i.val+1):=by decide+kernel
theorem MG: ∀i:Fin 256,0<up i.val∧up i.val<256∧0<down i.val∧down i.val<256:=by decide+kernel
theorem MH: ∀i:Fin 255,lg (up i.val)=i.val∧inv (up i.val)=down i.val:=by decide+kernel
theorem MI: ∀j:Fin 256,lg j.val<255∧inv j.val<256∧sb j.val<256∧(j.val=0∨up (lg j.val)=j.val):=by decide+kernel
theorem Sy: ∀j:Fin 256,j.val=0∨up ((255 - lg j.val)%255)=inv j.val:=by decide+kernel
theorem PM(a b:Nat)(ha:a<256)(hb:b<256):yp (a^^^b)=(yp a^^^yp b):=by
 have h2:2*(a^^^b)%256=(2*a%256)^^^(2*b%256):=by
  have:=Nat.xor_mod_two_pow (a:=2*a) (b:=2*b) (n:=8);have h1:2*a^^^2*b=2*(a^^^b):=by
   have h:=Nat.shiftLeft_xor_distrib (i:=1) (a:=a) (b:=b);simp only [Nat.shiftLeft_eq,Nat.pow_one]at h;rw [Nat.mul_comm 2 a,Nat.mul_comm 2 b,Nat.mul_comm 2 (a^^^b)];exact h.symm
  rw [h1]at this;exact this
 have hd:(a^^^b)/128=(a/128)^^^(b/128):=Nat.xor_div_two_pow (n:=7);have h27:27*((a^^^b)/128)=(27*(a/128))^^^(27*(b/128)):=by
  rw [hd];have h1:a/128=0∨a/128=1:=by omega
  have h2:b/128=0∨b/128=1:=by omega
  rcases h1 with h1 | h1<;>rcases h2 with h2 | h2<;>rw [h1,h2]<;>rfl
 unfold yp;rw [h2,h27]
 ac_rfl
theorem rp: ∀a:Fin 256,yp a.val<256:=by decide+kernel
def rc:Nat→Nat
 | 0=>1
 | n+1=>yp (rc n)
def W(n:Nat)(K:Nat→Nat)(i k:Nat):Nat:=
 if h:i<n∨n=0 then K (4*i+k)else
  W n K (i - n) k^^^(if i%n=0 then sb (W n K (i - 1) ((k+1)%4))^^^(if k=0 then rc (i/n - 1)else 0)else if n=8∧i%8=4 then sb (W n K (i - 1) k)else W n K (i - 1) k)
termination_by i
decreasing_by all_goals omega
theorem Ij: ∀n,rc n<256
 | 0=>by decide
 | n+1=>rp ⟨rc n,Ij n⟩
theorem aS{a b:Nat}(ha:a<256)(hb:b<256):a^^^b<256:=Nat.xor_lt_two_pow (n:=8) ha hb
theorem AI(j:Nat)(h:j<256):sb j<256:=(MI ⟨j,h⟩).2.2.1
theorem PN(n:Nat)(K:Nat→Nat)(hK: ∀j,K j<256)(i:Nat): ∀k,W n K i k<256:=by
 induction i using Nat.strongRecOn with
 | _ i ih=>
  intro k;rw [W];split
  ·exact hK _
  ·rename_i h;refine aS (ih (i - n) (by omega) k) ?_;split
   ·refine aS (AI _ (ih (i - 1) (by omega) _)) ?_;split
    ·exact Ij _
    ·decide
   ·split
    ·exact AI _ (ih (i - 1) (by omega) _)
    ·exact ih (i - 1) (by omega) k
def U7(s:Nat→Nat)(i:Nat):Nat:=sb (s ((i+4*(i%4))%16))
def U8(t:Nat→Nat)(i:Nat):Nat:=yp (t i)^^^(t (i/4*4+(i+1)%4)^^^yp (t (i/4*4+(i+1)%4)))^^^t (i/4*4+(i+2)%4)^^^t (i/4*4+(i+3)%4)
def rs(w:Nat→Nat→Nat)(m:Nat)(B:Nat→Nat):Nat→(Nat→Nat)
 | 0=>fun i=>B i^^^w (i/4) (i%4)
 | r+1=>fun i=>(if r+1<m then U8 (U7 (rs w m B r)) i else U7 (rs w m B r) i)^^^w (4*(r+1)+i/4) (i%4)
def enc(n:Nat)(K B:Nat→Nat)(i:Nat):Nat:=rs (W n K) (n+6) B (n+6) i
theorem MJ(w:Nat→Nat→Nat)(m:Nat)(B:Nat→Nat)(hw: ∀i k,w i k<256)(hB: ∀j,B j<256): ∀r i,rs w m B r i<256
 | 0,i=>aS (hB _) (hw _ _)
 | r+1,i=>by
  have ih:=MJ w m B hw hB r;have hs: ∀i,U7 (rs w m B r) i<256:=fun i=>AI _ (ih _)
  have hd: ∀a,a<256→yp a<256:=fun a h=>rp ⟨a,h⟩
  refine aS ?_ (hw _ _);split
  ·exact aS (aS (aS (hd _ (hs _)) (aS (hs _) (hd _ (hs _)))) (hs _)) (hs _)
  ·exact hs _
theorem yq(n:Nat)(K B:Nat→Nat)(hK: ∀j,K j<256)(hB: ∀j,B j<256)(i:Nat):enc n K B i<256:=MJ _ _ _ (fun i k=>PN n K hK i k) hB _ _
end Go.Ae

namespace Go.RX.Fe
open Go Go.RX Go.Proofs Go.Ae Go.RX.Sh
theorem cz{a b:Nat}(ha:a<256)(hb:b<256):ak .aD .u8 (a:Int) (b:Int)=((a^^^b:Nat):Int):=by
 show ae .u8 ((BitVec.ofInt 8 (a:Int)^^^BitVec.ofInt 8 (b:Int)).toNat:Int)=_;rw [wrap_u8,BitVec.toNat_xor,cj,cj,adQ ha,adQ hb,adQ (tX (n:=8) ha hb)]
theorem XT: ∀a:Fin 256,ak .aD .u8 (ak .shl .u8 (a.val:Int) 1) (ae .u8 ((ak .shr .u8 (a.val:Int) 7)*27))=((yp a.val:Nat):Int):=by decide+kernel
theorem Cd{a:Nat}(h:a<256):ak .aD .u8 (ak .shl .u8 (a:Int) 1) (ae .u8 ((ak .shr .u8 (a:Int) 7)*27))=((yp a:Nat):Int):=XT ⟨a,h⟩
def ML(A0 A1:Nat→Int):Prop:=(∀j,j<255→A0 j=(up j:Nat))∧∀j,j<255→A1 (up j)=j
theorem GJ:ar adE 46 [] [] fun x hs=>(∃A0 A1:Nat→Int,x= .tuple #[.agg (ads (aj .u8 255 A0) ([])).toArray,.agg (ads (aj .i64 256 A1) ([])).toArray]∧ML A0 A1)∧hs=[]:=by
 refine ar.nW (C:=cx) (aX:={}) (ρ:={}) FN qv FO Try.func46 (by constructor<;>rfl) (fun x=> ∃A0 A1:Nat→Int,x= .tuple #[.agg (ads (aj .u8 255 A0) ([])).toArray,.agg (ads (aj .i64 256 A1) ([])).toArray]∧ML A0 A1)
  (args:=[]) K1 (Oe adE (fun x _=> ∃A0 A1:Nat→Int,x= .tuple #[.agg (ads (aj .u8 255 A0) ([])).toArray,.agg (ads (aj .i64 256 A1) ([])).toArray]∧ML A0 A1) (fun _=>LC.none)) ?_
 unfold HD;intro _ _;refine⟨fun e=> ∃n:Nat,n≤255∧e.i.getD 0 0=n∧e.i.getD 1 0=(up n:Nat)∧(∀j,j<n→(e.a.getD 0 fun _=>0) j=(up j:Nat))∧∀j,j<n→(e.a.getD 1 fun _=>0) (up j)=j,fun e=>((255:Int) - e.i.getD 0 0).toNat,⟨0,1,fun _=>0,fun _=>0,rfl,rfl,fun _ _=>rfl,fun _ _=>rfl,0,by omega,rfl,rfl,fun j hj=>by omega,fun j hj=>by omega⟩,?_⟩;rintro x0 x1 A0 A1 ⟨n,hn,h0,h1,hA,hB⟩;simp only [ah,adx]at h0 h1 hA hB;subst h0 h1;refine⟨fun bP=>?_,fun bP=>?_⟩
 ·have MM:n<255:=by omega
  have hr:=MG ⟨n,by omega⟩;simp only at hr
  iterate 5 refine⟨by omega,fun _=>?_⟩
  have hs:=(PL ⟨n,MM⟩).1;simp only at hs;refine⟨n+1,(up (n+1):Nat),_,_,rfl,?_,fun _ _=>rfl,fun _ _=>rfl,⟨n+1,by omega,rfl,rfl,?_,?_⟩,?_⟩
  ·rw [Cd hr.2.1,cz hr.2.1 (rp ⟨_,hr.2.1⟩),hs]
  all_goals (try simp only [ah,adx,Int.toNat_natCast])
  ·intro j hj;unfold ao;split
   ·rename_i h;rw [h]
   ·exact hA j (by omega)
  ·intro j hj;have hl:=(MH ⟨j,by omega⟩).1;have Wi:=(MH ⟨n,MM⟩).1;simp only at hl Wi;unfold ao;split
   ·rename_i h;rw [h]at hl;omega
   ·rename_i h;refine hB j ?_;have:j≠n:=fun e=>h (by rw [e])
    omega
  ·omega
 ·obtain rfl:n=255:=by omega
  exact⟨A0,A1,rfl,hA,hB⟩
def XU(y:Int):Int:=
 let r (z:Int):Int:=ak .bJ .u8 (ak .shl .u8 z 1) (ak .shr .u8 z 7)
 ak .aD .u8 (ak .aD .u8 (ak .aD .u8 (ak .aD .u8 (ak .aD .u8 99 y) (r y)) (r (r y))) (r (r (r y)))) (r (r (r (r y))))
theorem Sz: ∀j:Fin 256,XU (inv j.val:Nat)=(sb j.val:Nat):=by decide+kernel
theorem AJ:ar adE 22 [] [] fun x hs=>(∃A:Nat→Int,x= .agg (ads (aj .u8 256 A) ([])).toArray∧∀j,j<256→A j=(sb j:Nat))∧hs=[]:=by
 refine ar.nW (C:=cx) (aX:={}) (ρ:={}) FN qv FO Try.func22 (by constructor<;>rfl) (fun x=> ∃A:Nat→Int,x= .agg (ads (aj .u8 256 A) ([])).toArray∧∀j,j<256→A j=(sb j:Nat))
  (args:=[]) Og (Rz adE (fun x _=> ∃A:Nat→Int,x= .agg (ads (aj .u8 256 A) ([])).toArray∧∀j,j<256→A j=(sb j:Nat)) (fun _=>LC.none)) ?_
 unfold K3;intro _;refine⟨_,GJ,?_⟩;rintro x hs ⟨⟨A0,A1,rfl,hP,hL⟩,rfl⟩;refine⟨A0,A1,rfl,rfl,?_⟩;intro _ _ _;refine⟨fun e=> ∃n:Nat,n≤256∧e.i.getD 0 0=n∧∀j,j<n→(e.a.getD 0 fun _=>0) j=(sb j:Nat),fun e=>((256:Int) - e.i.getD 0 0).toNat,⟨0,fun _=>0,rfl,fun _ _=>rfl,0,by omega,rfl,fun j hj=>by omega⟩,?_⟩;rintro x0 A2 ⟨n,hn,h0,hA⟩;simp only [ah]at h0 hA;subst h0;have put: ∀v:Int,n<256→v=(sb n:Nat)→∀j,j<n+1→ao A2 n v j=(sb j:Nat):=by
  intro v _ hv j hj;unfold ao;split
  ·rename_i h;rw [h,hv]
  ·exact hA j (by omega)
 refine⟨fun bP=>⟨fun mg=>?_,fun mg=>?_⟩,fun bP=>?_⟩
 ·have MM:n<256:=by omega
  have hl:=MI ⟨n,MM⟩;simp only at hl;have tZ:A1 n=(lg n:Nat):=by
   have h:=hL (lg n) hl.1;rcases hl.2.2.2 with hz | hu
   ·omega
   ·rw [hu]at h;exact h
  simp only [Int.toNat_natCast];rw [tZ];have px:ak .rem .i64 (255 - ((lg n:Nat):Int)) 255=(((255 - lg n)%255:Nat):Int):=by
   simp only [ak];rw [Int.tmod_eq_emod_of_nonneg (by omega)];omega
  rw [px];have XV:(255 - lg n)%255<255:=Nat.mod_lt _ (by decide)
  iterate 7 refine⟨by omega,fun _=>?_⟩
  simp only [Int.toNat_natCast];rw [hP _ XV];have hi:=Sy ⟨n,MM⟩;simp only at hi;have mF:up ((255 - lg n)%255)=inv n:=by rcases hi with hi | hi;omega;exact hi
  rw [mF];refine⟨n+1,_,rfl,fun _ _=>rfl,⟨n+1,by omega,rfl,?_⟩,?_⟩
  ·simp only [ah];exact put _ MM (Sz ⟨n,MM⟩)
  ·simp only [ah];omega
 ·obtain rfl:n=0:=by omega
  iterate 3 refine⟨by omega,fun _=>?_⟩
  refine⟨1,_,rfl,fun _ _=>rfl,⟨1,by omega,rfl,?_⟩,?_⟩
  ·simp only [ah];exact put 99 (by omega) (by decide+kernel)
  ·simp only [ah];omega
 ·obtain rfl:n=256:=by omega
  exact⟨A2,rfl,hA⟩
open Go Go.RX Go.Proofs Go.Ae Go.RX.Sh
def cw(n:Nat)(K:Nat→Nat):Nat→Int:=fun j=>(W n K (j/4) (j%4):Nat)
def ct(b:Nat)(v:V1):HP:=aq b true (ads (aj .u8 256 fun j=>(sb j:Nat)) [v.v])
def eH(v:V1)(n:Nat)(K:Nat→Nat):HP:=au true 73 4 v.v (4*(n+7)) (aK (4*(n+7)) [aJ .u8 4 (cw n K)])
def MN(v:V1)(n:Nat)(K:Nat→Nat):HP:=au false 5 1 v.v (4*n) (aK (4*n) [aJ .u8 1 fun j=>(K j:Nat)])
theorem yr{n:Nat}{f g:Nat→Int}(h: ∀j,j<4*n→f j=g j):aK n [aJ .u8 4 f]=aK n [aJ .u8 4 g]:=by
 unfold aK;have: ∀i∈List.range n,([aJ .u8 4 f].flatMap fun c=>c i)=([aJ .u8 4 g].flatMap fun c=>c i):=by
  intro i hi;rw [adZ]at hi;simp only [List.flatMap_cons,List.flatMap_nil,List.append_nil,aJ];exact bA .u8 4 fun j hj=>h (i*4+j) (by omega)
 rw [List.flatMap_def,List.flatMap_def,List.map_congr_left this]
theorem Ik(n:Nat)(K:Nat→Nat){A2:Nat→Int}{i:Nat}(hA: ∀j,j<4*i→A2 j=cw n K j)(d:Nat)(hd:0<d)(hdi:d≤i)(k:Nat)(hk:k<4):aE A2 (ag (((i:Int) - (d:Int))*4)) k=(W n K (i - d) k:Nat):=by
 unfold aE;rw [show ag (((i:Int) - (d:Int))*4)=4*(i - d) by omega,hA _ (by omega)];unfold cw;rw [show(4*(i - d)+k)/4=i - d by omega,show(4*(i - d)+k)%4=k by omega]
theorem GK(n:Nat)(K:Nat→Nat){A2:Nat→Int}{i:Nat}(hA: ∀j,j<4*i→A2 j=cw n K j)(w:Nat→Int)(hw: ∀k,k<4→w k=(W n K i k:Nat)):
  ∀j,j<4*(i+1)→aA A2 (ag ((i:Int)*4)) 4 w j=cw n K j:=by
 intro j hj;unfold aA;rw [show ag ((i:Int)*4)=4*i by omega];split
 ·rename_i h;rw [hw (j - 4*i) (by omega)];unfold cw;rw [show j/4=i by omega,show j%4=j - 4*i by omega]
 ·exact hA j (by omega)
theorem four(w:Nat→Int)(a b c d:Int)(f:Nat→Nat)(h0:a=(f 0:Nat))(h1:b=(f 1:Nat))(h2:c=(f 2:Nat))(h3:d=(f 3:Nat)): ∀k,k<4→ao (ao (ao (ao w 0 a) 1 b) 2 c) 3 d k=(f k:Nat):=by
 intro k hk;have:k=0∨k=1∨k=2∨k=3:=by omega
 rcases this with rfl | rfl | rfl | rfl
 ·exact h0
 ·exact h1
 ·exact h2
 ·exact h3
theorem Ra(n:Nat)(K:Nat→Nat){i:Nat}(h:i<n)(k:Nat):W n K i k=K (4*i+k):=by rw [W,dif_pos (.inl h)]
theorem py(n:Nat)(K:Nat→Nat)(hn:0<n){i:Nat}(h: ¬i<n)(hz:i%n=0)(k:Nat):W n K i k=W n K (i - n) k^^^(sb (W n K (i - 1) ((k+1)%4))^^^(if k=0 then rc (i/n - 1)else 0)):=by
 conv=>lhs;rw [W]
 rw [dif_neg (by omega),if_pos hz]
theorem Ce(K:Nat→Nat){i:Nat}(h: ¬i<8)(hz:i%8=4)(k:Nat):W 8 K i k=W 8 K (i - 8) k^^^sb (W 8 K (i - 1) k):=by
 conv=>lhs;rw [W]
 rw [dif_neg (by omega),if_neg (by omega),if_pos ⟨rfl,hz⟩]
theorem lS(n:Nat)(K:Nat→Nat)(hn:0<n){i:Nat}(h: ¬i<n)(hz:i%n≠0)(h4: ¬(n=8∧i%8=4))(k:Nat):W n K i k=W n K (i - n) k^^^W n K (i - 1) k:=by
 conv=>lhs;rw [W]
 rw [dif_neg (by omega),if_neg hz,if_neg h4]
theorem wE(i n:Nat):ak .rem .i64 (i:Int) (n:Int)=((i%n:Nat):Int):=by
 simp only [ak];rw [Int.tmod_eq_emod_of_nonneg (by omega)];omega
def J5(v:V1)(n:Nat)(K:Nat→Nat)(x:Value)(hs:List HP):Prop:= ∃(b:Nat) (w:V1),x= .tuple #[.pointer (some ⟨b,0,none⟩),.int .i64 0]∧hs=[MN v n K,ct b w,eH w n K]
theorem pz(v:V1)(K:Nat→Nat)(hK: ∀j,K j<256):ar adE 10 [v.v] [MN v 4 K] (J5 v 4 K):=by
 have h:=ar.kH (C:=cx) (aX:={a:=1,v:=1}) (ρ:={av:=[fun j=>(K j:Nat)],vv:=[v]}) FN qv FO Try.func10 (by constructor<;>rfl)
  (ax:=fun x hs=>J5 v 4 K x (hs.take 3)) (args:=[.vv 0]) (hp:=[.bu false 0 5 1 (.lit 16) [⟨.int .u8,1,.aO 0⟩]]) I4
  (K4 adE (J5 v 4 K) (fun j=>(K j:Nat)) v (fun _=>LC.none)) ?_
 ·exact ar.post h fun x hs hq=>⟨hs.take 3,bU.sub (List.take_sublist 3 hs),hq⟩
 unfold Dc;refine⟨_,AJ,?_⟩;rintro x hs ⟨⟨A1,rfl,hS⟩,rfl⟩;refine⟨A1,rfl,rfl,?_⟩;intro b0;refine⟨fun e=> ∃i:Nat,i≤44∧e.i.getD 0 0=i∧e.i.getD 1 0=(rc ((i - 1)/4):Nat)∧∀j,j<4*i→(e.a.getD 0 fun _=>0) j=cw 4 K j,fun e=>((44:Int) - e.i.getD 0 0).toNat,⟨⟨.slice none 0 0,rfl⟩,0,1,fun _=>0,rfl,rfl,rfl,rfl,rfl,fun _ _=>rfl,0,by omega,rfl,by simp [rc],fun j hj=>by omega⟩,?_⟩;rintro w x0 x1 A2 ⟨i,hi,h0,h1,hA⟩;simp only [ah,adx]at h0 h1 hA;subst h0 h1;have hW:=PN 4 K hK;refine⟨fun bP=>⟨fun hk=>?_,fun hk=>?_⟩,fun bP=>?_⟩
 ·repeat (first | (intro _) | (refine⟨by omega,fun _=>?_⟩))
  rename_i v3 _ _;refine⟨v3,i+1,_,_,rfl,rfl,rfl,rfl,rfl,fun _ _=>rfl,⟨i+1,by omega,rfl,?_,?_⟩,?_⟩
  all_goals (try simp only [ah,adx])
  ·rw [show(i - 1)/4=(i+1 - 1)/4 by omega]
  ·refine GK 4 K hA _ fun k PO=>?_
   rw [Ra 4 K (by omega)];unfold aE;rw [show ag (4*(i:Int))=4*i by omega]
  ·omega
 ·have z: ∀k,k<4→aE A2 (ag (((i:Int) - 1)*4)) k=(W 4 K (i - 1) k:Nat):=fun k PO=>Ik 4 K hA 1 (by omega) (by omega) k PO
  have y: ∀k,k<4→aE A2 (ag (((i:Int) - 4)*4)) k=(W 4 K (i - 4) k:Nat):=fun k PO=>Ik 4 K hA 4 (by omega) (by omega) k PO
  have s: ∀k,A1 (W 4 K (i - 1) k)=(sb (W 4 K (i - 1) k):Nat):=fun k=>hS _ (hW _ _)
  have sl: ∀k,sb (W 4 K (i - 1) k)<256:=fun k=>AI _ (hW _ _)
  have XW:ak .rem .i64 (i:Int) 4=((i%4:Nat):Int):=wE i 4;have w0:=hW (i - 1) 0;have w1:=hW (i - 1) 1;have w2:=hW (i - 1) 2;have w3:=hW (i - 1) 3;have PQ:=Ij ((i - 1)/4);simp only [z 0 (by decide),z 1 (by decide),z 2 (by decide),z 3 (by decide),y 0 (by decide),y 1 (by decide),y 2 (by decide),y 3 (by decide),Int.toNat_natCast,s]
  iterate 4 refine⟨by omega,fun _=>?_⟩
  intro _;rw [XW];refine⟨fun hz=>?_,fun hz=>?_⟩
  ·repeat (first | (intro _) | (refine⟨by omega,fun _=>?_⟩))
   rename_i v3 _ _;have e1:(i - 1)/4=i/4 - 1:=by omega
   refine⟨v3,i+1,_,_,rfl,rfl,rfl,rfl,rfl,fun _ _=>rfl,⟨i+1,by omega,rfl,?_,?_⟩,?_⟩
   all_goals (try simp only [ah,adx])
   ·rw [Cd PQ,show(i+1 - 1)/4=(i - 1)/4+1 by omega];rfl
   ·refine GK 4 K hA _ (four _ _ _ _ _ _ ?_ ?_ ?_ ?_)
    ·rw [cz (sl 1) PQ,cz (aS (sl 1) PQ) (hW _ _),py 4 K (by omega) (i:=i) (by omega) (by omega) 0,if_pos rfl,←e1,ad5]
    ·rw [cz (sl 2) (hW _ _),py 4 K (by omega) (i:=i) (by omega) (by omega) 1,if_neg (by omega),Nat.xor_zero,ad5]
    ·rw [cz (sl 3) (hW _ _),py 4 K (by omega) (i:=i) (by omega) (by omega) 2,if_neg (by omega),Nat.xor_zero,ad5]
    ·rw [cz (sl 0) (hW _ _),py 4 K (by omega) (i:=i) (by omega) (by omega) 3,if_neg (by omega),Nat.xor_zero,ad5]
   ·omega
  ·repeat (first | (intro _) | (refine⟨by omega,fun _=>?_⟩))
   rename_i v3 _ _;refine⟨v3,i+1,_,_,rfl,rfl,rfl,rfl,rfl,fun _ _=>rfl,⟨i+1,by omega,rfl,?_,?_⟩,?_⟩
   all_goals (try simp only [ah,adx])
   ·rw [show(i - 1)/4=(i+1 - 1)/4 by omega]
   ·refine GK 4 K hA _ (four _ _ _ _ _ _ ?_ ?_ ?_ ?_)
    ·rw [cz (hW _ _) (hW _ _),lS 4 K (by omega) (i:=i) (by omega) (by omega) (by omega) 0,ad5]
    ·rw [cz (hW _ _) (hW _ _),lS 4 K (by omega) (i:=i) (by omega) (by omega) (by omega) 1,ad5]
    ·rw [cz (hW _ _) (hW _ _),lS 4 K (by omega) (i:=i) (by omega) (by omega) (by omega) 2,ad5]
    ·rw [cz (hW _ _) (hW _ _),lS 4 K (by omega) (i:=i) (by omega) (by omega) (by omega) 3,ad5]
   ·omega
 ·obtain rfl:i=44:=by omega
  refine⟨b0,w,rfl,?_⟩;have e1:aj .u8 256 A1=aj .u8 256 fun j=>(sb j:Nat):=bA .u8 256 hS
  have e2:aK (ag ((44:Nat):Int)) [aJ .u8 4 A2]=aK (4*(4+7)) [aJ .u8 4 (cw 4 K)]:=yr (n:=44) hA;rw [e1,e2];rfl
theorem pA(v:V1)(K:Nat→Nat)(hK: ∀j,K j<256):ar adE 10 [v.v] [MN v 8 K] (J5 v 8 K):=by
 have h:=ar.kH (C:=cx) (aX:={a:=1,v:=1}) (ρ:={av:=[fun j=>(K j:Nat)],vv:=[v]}) FN qv FO Try.func10 (by constructor<;>rfl)
  (ax:=fun x hs=>J5 v 8 K x (hs.take 3)) (args:=[.vv 0]) (hp:=[.bu false 0 5 1 (.lit 32) [⟨.int .u8,1,.aO 0⟩]]) I5
  (K5 adE (J5 v 8 K) (fun j=>(K j:Nat)) v (fun _=>LC.none)) ?_
 ·exact ar.post h fun x hs hq=>⟨hs.take 3,bU.sub (List.take_sublist 3 hs),hq⟩
 unfold De;refine⟨_,AJ,?_⟩;rintro x hs ⟨⟨A1,rfl,hS⟩,rfl⟩;refine⟨A1,rfl,rfl,?_⟩;intro b0;refine⟨fun e=> ∃i:Nat,i≤60∧e.i.getD 0 0=i∧e.i.getD 1 0=(rc ((i - 1)/8):Nat)∧∀j,j<4*i→(e.a.getD 0 fun _=>0) j=cw 8 K j,fun e=>((60:Int) - e.i.getD 0 0).toNat,⟨⟨.slice none 0 0,rfl⟩,0,1,fun _=>0,rfl,rfl,rfl,rfl,rfl,fun _ _=>rfl,0,by omega,rfl,by simp [rc],fun j hj=>by omega⟩,?_⟩;rintro w x0 x1 A2 ⟨i,hi,h0,h1,hA⟩;simp only [ah,adx]at h0 h1 hA;subst h0 h1;have hW:=PN 8 K hK;refine⟨fun bP=>⟨fun hk=>?_,fun hk=>?_⟩,fun bP=>?_⟩
 ·repeat (first | (intro _) | (refine⟨by omega,fun _=>?_⟩))
  rename_i v3 _ _;refine⟨v3,i+1,_,_,rfl,rfl,rfl,rfl,rfl,fun _ _=>rfl,⟨i+1,by omega,rfl,?_,?_⟩,?_⟩
  all_goals (try simp only [ah,adx])
  ·rw [show(i - 1)/8=(i+1 - 1)/8 by omega]
  ·refine GK 8 K hA _ fun k PO=>?_
   rw [Ra 8 K (by omega)];unfold aE;rw [show ag (4*(i:Int))=4*i by omega]
  ·omega
 ·have z: ∀k,k<4→aE A2 (ag (((i:Int) - 1)*4)) k=(W 8 K (i - 1) k:Nat):=fun k PO=>Ik 8 K hA 1 (by omega) (by omega) k PO
  have y: ∀k,k<4→aE A2 (ag (((i:Int) - 8)*4)) k=(W 8 K (i - 8) k:Nat):=fun k PO=>Ik 8 K hA 8 (by omega) (by omega) k PO
  have s: ∀k,A1 (W 8 K (i - 1) k)=(sb (W 8 K (i - 1) k):Nat):=fun k=>hS _ (hW _ _)
  have sl: ∀k,sb (W 8 K (i - 1) k)<256:=fun k=>AI _ (hW _ _)
  have XW:ak .rem .i64 (i:Int) 8=((i%8:Nat):Int):=wE i 8;have w0:=hW (i - 1) 0;have w1:=hW (i - 1) 1;have w2:=hW (i - 1) 2;have w3:=hW (i - 1) 3;have PQ:=Ij ((i - 1)/8);simp only [z 0 (by decide),z 1 (by decide),z 2 (by decide),z 3 (by decide),y 0 (by decide),y 1 (by decide),y 2 (by decide),y 3 (by decide),Int.toNat_natCast,s]
  iterate 4 refine⟨by omega,fun _=>?_⟩
  intro _;rw [XW];refine⟨fun hz=>?_,fun hz=>?_⟩
  ·repeat (first | (intro _) | (refine⟨by omega,fun _=>?_⟩))
   rename_i v3 _ _;have e1:(i - 1)/8=i/8 - 1:=by omega
   refine⟨v3,i+1,_,_,rfl,rfl,rfl,rfl,rfl,fun _ _=>rfl,⟨i+1,by omega,rfl,?_,?_⟩,?_⟩
   all_goals (try simp only [ah,adx])
   ·rw [Cd PQ,show(i+1 - 1)/8=(i - 1)/8+1 by omega];rfl
   ·refine GK 8 K hA _ (four _ _ _ _ _ _ ?_ ?_ ?_ ?_)
    ·rw [cz (sl 1) PQ,cz (aS (sl 1) PQ) (hW _ _),py 8 K (by omega) (i:=i) (by omega) (by omega) 0,if_pos rfl,←e1,ad5]
    ·rw [cz (sl 2) (hW _ _),py 8 K (by omega) (i:=i) (by omega) (by omega) 1,if_neg (by omega),Nat.xor_zero,ad5]
    ·rw [cz (sl 3) (hW _ _),py 8 K (by omega) (i:=i) (by omega) (by omega) 2,if_neg (by omega),Nat.xor_zero,ad5]
    ·rw [cz (sl 0) (hW _ _),py 8 K (by omega) (i:=i) (by omega) (by omega) 3,if_neg (by omega),Nat.xor_zero,ad5]
   ·omega
  ·refine⟨fun hz4=>?_,fun hz4=>?_⟩
   ·repeat (first | (intro _) | (refine⟨by omega,fun _=>?_⟩))
    rename_i v3 _ _;refine⟨v3,i+1,_,_,rfl,rfl,rfl,rfl,rfl,fun _ _=>rfl,⟨i+1,by omega,rfl,?_,?_⟩,?_⟩
    all_goals (try simp only [ah,adx])
    ·rw [show(i - 1)/8=(i+1 - 1)/8 by omega]
    ·refine GK 8 K hA _ (four _ _ _ _ _ _ ?_ ?_ ?_ ?_)
     ·rw [cz (sl 0) (hW _ _),Ce K (i:=i) (by omega) (by omega) 0,ad5]
     ·rw [cz (sl 1) (hW _ _),Ce K (i:=i) (by omega) (by omega) 1,ad5]
     ·rw [cz (sl 2) (hW _ _),Ce K (i:=i) (by omega) (by omega) 2,ad5]
     ·rw [cz (sl 3) (hW _ _),Ce K (i:=i) (by omega) (by omega) 3,ad5]
    ·omega
   ·repeat (first | (intro _) | (refine⟨by omega,fun _=>?_⟩))
    rename_i v3 _ _;refine⟨v3,i+1,_,_,rfl,rfl,rfl,rfl,rfl,fun _ _=>rfl,⟨i+1,by omega,rfl,?_,?_⟩,?_⟩
    all_goals (try simp only [ah,adx])
    ·rw [show(i - 1)/8=(i+1 - 1)/8 by omega]
    ·refine GK 8 K hA _ (four _ _ _ _ _ _ ?_ ?_ ?_ ?_)
     ·rw [cz (hW _ _) (hW _ _),lS 8 K (by omega) (i:=i) (by omega) (by omega) (by omega) 0,ad5]
     ·rw [cz (hW _ _) (hW _ _),lS 8 K (by omega) (i:=i) (by omega) (by omega) (by omega) 1,ad5]
     ·rw [cz (hW _ _) (hW _ _),lS 8 K (by omega) (i:=i) (by omega) (by omega) (by omega) 2,ad5]
     ·rw [cz (hW _ _) (hW _ _),lS 8 K (by omega) (i:=i) (by omega) (by omega) (by omega) 3,ad5]
    ·omega
 ·obtain rfl:i=60:=by omega
  refine⟨b0,w,rfl,?_⟩;have e1:aj .u8 256 A1=aj .u8 256 fun j=>(sb j:Nat):=bA .u8 256 hS
  have e2:aK (ag ((60:Nat):Int)) [aJ .u8 4 A2]=aK (4*(8+7)) [aJ .u8 4 (cw 8 K)]:=yr (n:=60) hA;rw [e1,e2];rfl
end Go.RX.Fe
