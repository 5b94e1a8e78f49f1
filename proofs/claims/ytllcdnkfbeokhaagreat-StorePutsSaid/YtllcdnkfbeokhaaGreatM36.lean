/- AES plainly. -/
import Derived.Test.YtllcdnkfbeokhaaGreatM35
open Go.IntKind renaming wrap -> ae
open Go.Proofs.Tryz renaming prog -> ax8
open Int renaming toNat -> ag, toNat_natCast -> ax3
open List renaming append_assoc -> ayl, flatMap_cons -> ayn, flatMap_nil -> ayx, getD_cons_succ -> ayI, getD_cons_zero -> ah, getElem?_append_left -> axX, getElem?_append_right -> axY, getElem?_eq_getElem -> ays, getElem?_eq_some_iff -> axT, mem_range -> ayc
open Option.some renaming injEq -> axU
namespace Go.Ae
def upT:Nat:=247704880781559356684414323119999879637317647180040216102211349143305888774923398537951341803642731683984666991564019150676315804531779449815159115664189418245566988781254625896260912026622159780553349108386186142268315007856282091988200171439146255715840100601167723801170608095743514940052926055042184507632911811387723359914440662207451538163404716729158929845121383729837235901114109841630616474463024741216292666125260571984924724184385554713500007113061044175325657975136216706165622836048350080632971744177780693200859426168487707538171671676645432511882666690861394815764438377708986394032816479809277592321
def sT:Nat:=2869618975290639062594974519597816386035077209210385677284518162336985023502962151465775969507961862820568736543004676439868535775640188584098917533413284844376797297285941524888791401501466624530423689326528054213168201056672989590893583853414110162539122864583953358348775951166211353578440977400428507475679327181038682772945817200201960445064847785221508011893952350688324234443749897213621340677040612747745615276448919507935121141307752692835344166708617454322778699219895865633266409040561742768581056182730443599545881830075941537620590442514083341749674612746994879540562701631131184186066652929592955206755
def up(i:Nat):Nat:=upT/256^i%256
def sb(j:Nat):Nat:=sT/256^j%256
def dbl(a:Nat):Nat:=(2*a%256)^^^(27*(a/128))
def rc:Nat->Nat
 | 0=>1
 | n+1=>dbl (rc n)
def W(n:Nat)(K:Nat->Nat)(i k:Nat):Nat:=
 if h:i<n\/n=0 then K (4*i+k)else
  W n K (i - n) k^^^(if i%n=0 then sb (W n K (i - 1) ((k+1)%4))^^^(if k=0 then rc (i/n - 1)else 0)else if n=8/\i%8=4 then sb (W n K (i - 1) k)else W n K (i - 1) k)
termination_by i
decreasing_by all_goals omega
def shS(s:Nat->Nat)(i:Nat):Nat:=sb (s ((i+4*(i%4))%16))
def an4(t:Nat->Nat)(i:Nat):Nat:=dbl (t i)^^^(t (i/4*4+(i+1)%4)^^^dbl (t (i/4*4+(i+1)%4)))^^^t (i/4*4+(i+2)%4)^^^t (i/4*4+(i+3)%4)
def rs(w:Nat->Nat->Nat)(m:Nat)(B:Nat->Nat):Nat->(Nat->Nat)
 | 0=>λi=>B i^^^w (i/4) (i%4)
 | r+1=>λi=>(if r+1<m then an4 (shS (rs w m B r)) i else shS (rs w m B r) i)^^^w (4*(r+1)+i/4) (i%4)
end Go.Ae

namespace Go.RX.Fe
open Go Go.RX Go.Proofs Go.Ae Go.RX.Sh
def cw(n:Nat)(K:Nat->Nat):Nat->Int:=λj=>(W n K (j/4) (j%4):Nat)
theorem four(w:Nat->Int)(a b c d:Int)(f:Nat->Nat)(h0:a=(f 0:Nat))(h1:b=(f 1:Nat))(h2:c=(f 2:Nat))(h3:d=(f 3:Nat)): ∀k,k<4->au (au (au (au w 0 a) 1 b) 2 c) 3 d k=(f k:Nat):=by
 intro k hk;have:k=0\/k=1\/k=2\/k=3:=by omega
 rcases this with rfl | rfl | rfl | rfl
 .exact h0
 .exact h1
 .exact h2
 .exact h3
open Go Go.RX Go.Proofs Go.Ae Go.RX.Sh
theorem Mi(i n:Nat):ar .quo .i64 (i:Int) (n:Int)=((i/n:Nat):Int):=by
 simp only[ar];rw[Int.tdiv_eq_ediv_of_nonneg (by omega)];omega
theorem ahD(n:Nat)(hn:n<100):ae .i64 (ar .quo .i64 (Int.ofNat (4*(n+7))) 4) - 1=((n+6:Nat):Int):=by
 have:=Mi (4*(n+7)) 4;rw[show ar .quo .i64 (Int.ofNat (4*(n+7))) 4=((n+7:Nat):Int) by rw[show(Int.ofNat (4*(n+7)):Int)=((4*(n+7):Nat):Int)from rfl,show(4:Int)=((4:Nat):Int)from rfl,Mi];omega];rw[Dw .i64 _ (by show(-9223372036854775808:Int)<=_;omega) (by show _<=(9223372036854775807:Int);omega)];omega
end Go.RX.Fe

namespace Go.Ae
def an5(B:Nat->Nat):Nat:=B 12*16777216+B 13*65536+B 14*256+B 15
def nx(B:Nat->Nat)(j:Nat):Nat:=if j<12 then B j else(an5 B+1)%4294967296/256^(15 - j)%256
end Go.Ae

namespace Go.RX.Fg
open Go Go.RX Go.Proofs Go.Ae Go.RX.Sh Go.RX.Fe
def dL(md:Bool)(v:V1)(n:Nat)(T:Nat->Nat):HP:=aA md 5 1 v.v n (aG n [ax .u8 1 λj=>(T j:Nat)])
theorem oC{n:Nat}{f g:Nat->Int}(h: ∀j,j<n->f j=g j):aG n [ax .u8 1 f]=aG n [ax .u8 1 g]:=by
 unfold aG;have: ∀i∈List.range n,([ax .u8 1 f].flatMap λc=>c i)=([ax .u8 1 g].flatMap λc=>c i):=by
  intro i hi;rw[ayc]at hi;simp only[ayn,ayx,List.append_nil,ax];exact cN .u8 1 λj hj=>h (i*1+j) (by omega)
 rw[List.flatMap_def,List.flatMap_def,List.map_congr_left this]
open Go Go.RX Go.Proofs Go.Ae
theorem bq.ahE{a:List HP}{x:HP}(i:Nat)(h:a[i]? =some x):bq a [x]:=by
 obtain⟨hl,he⟩:=axT.1 h;refine bq.sub ?_;rw[List.singleton_sublist];exact he▸List.getElem_mem hl
def pL(x:Value)(n:Nat)(T:Nat->Nat):HP:=aA false 5 1 x n (aG n [ax .u8 1 λj=>(T j:Nat)])
theorem aZ.bytes{v:V1}{n:Nat}{T:Nat->Nat}:aZ [dL true v n T] (pL v.v n T):=aZ.own
theorem aZ.view{v:V1}{n:Nat}{T:Nat->Nat}:aZ [dL false v n T] (pL v.v n T):=aZ.self rfl
theorem TS(k:IntKind)(n lo m:Nat)(f:Nat->Int)(h:lo+m<=n):((aG n [ax k 1 f]).drop (lo*1)).take (m*1)=aG m [ax k 1 λj=>f (lo+j)]:=by
 rw[EN,EN,Nat.mul_one,Nat.mul_one,tR,gQ k (n - lo) m _ (by omega)]
theorem aZ.part{B:List HP}{x:Value}{n lo hi:Nat}{mx:Option Nat}{T:Nat->Nat}(hb:aZ B (pL x n T))(h1:lo<=hi)(h2:hi<=n)(h3: ∀m,mx=some m->hi<=m):
  aZ B (pL (aK 1 x lo hi mx) (hi - lo) λj=>T (lo+j)):=by
 have:=aZ.sub (lo:=lo) (hi:=hi) (mx:=mx) hb h1 h2 h3;rw[TS .u8 n lo (hi - lo) _ (by omega)]at this;exact this
theorem aZ.block{b n m:Nat}{wr:Bool}{A:Nat->Int}{T:Nat->Nat}(hA: ∀j,j<n->A j=(T j:Nat))(hm:n<=m):aZ [ak b wr (aj .u8 n A)] (pL (.slice (some ⟨b,0,none⟩) n m) n T):=by
 have:=aZ.row (t:=5) (b:=b) (wr:=wr) (lo:=0) (n:=n) (m:=m) (cs:=aj .u8 n A) (by simp[aH]) hm;rw[List.drop_zero,gQ .u8 n n _ (Nat.le_refl _)]at this;unfold pL;rw[EN,cN .u8 n λj hj=>(hA j hj).symm];exact this
end Go.RX.Fg

namespace Go.RX.Fj
open Go Go.RX Go.Proofs Go.Ae Go.RX.Sh Go.RX.Fe Go.RX.Fg Go.RX.Fi
theorem ahF{a b:Nat}(ha:a<256):ae .u8 (ar .quo .u8 (a:Int) (b:Int))=((a/b:Nat):Int):=by
 have h:ar .quo .u8 (a:Int) (b:Int)=((a/b:Nat):Int):=rfl;rw[h,wrap_u8,Nat.mod_eq_of_lt (Nat.lt_of_le_of_lt (Nat.div_le_self a b) ha)]
open Go Go.RX Go.Proofs Go.Ae Go.RX.Sh Go.RX.Fe Go.RX.Fg Go.RX.Fi
def bs(y k:Nat):Nat:=y/2^k%2+y/2^((k+4)%8)%2+y/2^((k+5)%8)%2+y/2^((k+6)%8)%2+y/2^((k+7)%8)%2+99/2^k%2
def pt(y:Nat):Nat->Nat
 | 0=>0
 | k+1=>pt y k+(if bs y k%2=1 then 2^k else 0)
open Go Go.RX Go.Proofs Go.Ae Go.RX.Sh Go.RX.Fe Go.RX.Fg Go.RX.Fi
theorem w64{a:Nat}(h:a<2^64):ae .u64 (a:Int)=(a:Int):=by rw[wrap_u64,Nat.mod_eq_of_lt h]
open Go Go.RX Go.Proofs Go.Ae Go.RX.Sh Go.RX.Fe Go.RX.Fg Go.RX.Fi
theorem aZ.get{B:List HP}{md:Bool}{v:V1}{n:Nat}{T:Nat->Nat}(i:Nat)(h:B[i]? =some (dL md v n T)):aZ B (pL v.v n T):=by
 obtain⟨hl,he⟩:=axT.1 h;have e:B=B.take i++[dL md v n T]++B.drop (i+1):=by
  rw[ayl,<-he];simp
 rw[e];refine aZ.mid ?_;cases md
 .exact aZ.view
 .exact aZ.bytes
end Go.RX.Fj

namespace Go.Gh
def xs:Nat->(Nat->Bool)->Bool
 | 0,_=>false
 | n+1,f=>xs n f ^^ f n
def xt(f:Nat->Bool):Nat->Bool:=λi=>if i=0 then f 127 else f (i - 1) ^^ (f 127&&(decide (i=1)||decide (i=2)||decide (i=7)))
def xtn:Nat->(Nat->Bool)->(Nat->Bool)
 | 0,f=>f
 | n+1,f=>xt (xtn n f)
def add(f g:Nat->Bool):Nat->Bool:=λi=>f i ^^ g i
def e(k:Nat):Nat->Bool:=λi=>decide (i=k)
def R(k:Nat):Nat->Bool:=xtn k (e 0)
def gm(p q:Nat->Bool):Nat->Bool:=λi=>xs 128 λa=>xs 128 λb=>(p a&&q b)&&R (a+b) i
def zH(p q:Nat->Bool):Nat->(Nat->Bool)
 | 0=>λ_=>false
 | k+1=>λi=>xt (zH p q k) i ^^ (p (127 - k)&&q i)
def conv(p q:Nat->Bool):Nat->Bool:=λk=>xs 128 λa=>xs 128 λb=>(p a&&q b)&&decide (a+b=k)
def pb(B:Nat->Nat):Nat->Bool:=λi=>(B (i/8)).testBit (7 - i%8)
def uv(T:Nat->Nat)(len r j:Nat):Nat:=if 16*r+j<len then T (16*r+j)else 0
def gh(H:Nat->Bool)(T:Nat->Nat)(len:Nat):Nat->(Nat->Bool)
 | 0=>λ_=>false
 | r+1=>gm (add (gh H T len r) (pb (uv T len r))) H
end Go.Gh

namespace Go.RX.Fk
open Go Go.RX Go.Proofs Go.Ae Go.RX.Sh Go.RX.Fe Go.RX.Fg Go.RX.Fi Go.RX.Fj Go.Gh
theorem H6{f:Nat}{args:List Value}{L B:List HP}{n:Nat}{T:Nat->Nat}(hm:ao ax8 f args L λr hs=> ∃o:V1,r=o.v/\hs=[dL true o n T])(hL: ∀h∈L,aZ B h):
  ao ax8 f args B λr hs=> ∃o:V1,r=o.v/\hs=B++[dL true o n T]:=by
 have h:ao ax8 f args ([]++L) λr hs=> ∃nw,(∃o:V1,r=o.v/\nw=[dL true o n T])/\hs=[]++nw:=by
  refine ao.post hm ?_;rintro r hs ⟨o,hr,rfl⟩;exact⟨_,bq.refl _,_,⟨o,hr,rfl⟩,rfl⟩
 refine ao.post (ao.Y3 h (by simp) ?_ hL) ?_
 .rintro v nw ⟨o,_,rfl⟩ h hh;simp only[List.mem_cons,List.not_mem_nil,or_false]at hh;subst hh;rfl
 .rintro r hs ⟨nw,⟨o,hr,rfl⟩,rfl⟩;exact⟨_,bq.refl _,o,hr,rfl⟩
theorem ahG{p:HP->Prop}{a:HP}(h:p a): ∀x∈[a],p x:=by simpa using h
def b1(b:Bool):Nat:=if b then 1 else 0
end Go.RX.Fk

namespace Go.RX.Fm
open Go Go.RX Go.Proofs Go.RX.Sh Go.RX.Fg Go.RX.Fj Go.RX.Fk
theorem ahD{x:Int}(h0:0<=x)(h1:x<=64):ae .i64 (ar .quo .i64 x 4)=((x.toNat/4:Nat):Int):=by
 obtain⟨i,rfl⟩:=Int.eq_ofNat_of_zero_le h0;show ae .i64 (Int.tdiv (i:Int) 4)=_;have:Int.tdiv (i:Int) 4=((i/4:Nat):Int):=rfl;rw[this,ax3];simp[ae,IntKind.signed,IntKind.bits];omega
abbrev wQ(b:Nat)(vh vk:V1):HP:=ak b true [vh.v,vk.v,.int .i64 4,.int .i64 2,.int .i64 13,.int .i64 22,.int .i64 6,.int .i64 11,.int .i64 25,.int .i64 7,.int .i64 18,.int .i64 3,.int .i64 17,.int .i64 19,.int .i64 10]
theorem TU{B:Nat->Nat}{A:Nat->Int}(hB: ∀j,j<64->B j<256){t:Int}(h0:16<=t)(h1:t<64)(hA: ∀j,j<64->A j=((iu B (t.toNat - 16) j:Nat):Int))(j:Nat)(hj:j<64):
  au A (ag t) (ae .u32 ((ae .u32 ((ae .u32 ((ar .cQ .u32 (ar .cQ .u32 (ar .cU .u32 (ar .shr .u32 (A (ag (t - 2))) 17) (ar .shl .u32 (A (ag (t - 2))) 15)) (ar .cU .u32 (ar .shr .u32 (A (ag (t - 2))) 19) (ar .shl .u32 (A (ag (t - 2))) 13))) (ar .shr .u32 (A (ag (t - 2))) 10))+(A (ag (t - 7)))))+(ar .cQ .u32 (ar .cQ .u32 (ar .cU .u32 (ar .shr .u32 (A (ag (t - 15))) 7) (ar .shl .u32 (A (ag (t - 15))) 25)) (ar .cU .u32 (ar .shr .u32 (A (ag (t - 15))) 18) (ar .shl .u32 (A (ag (t - 15))) 14))) (ar .shr .u32 (A (ag (t - 15))) 3))))+(A (ag (t - 16))))) j
   =((iu B (t.toNat - 16+1) j:Nat):Int):=by
 have hl:=Ku hB (t.toNat - 16);obtain⟨n,hn⟩: ∃n,n=t.toNat - 16:=⟨_,rfl⟩;rw[<-hn]at hA hl ⊢;rw[iu];unfold au;dsimp only;by_cases Kw:j=t.toNat
 .rw [if_pos Kw,if_pos (by omega)];rw[hA (ag (t - 2)) (by omega),hA (ag (t - 7)) (by omega),hA (ag (t - 15)) (by omega),hA (ag (t - 16)) (by omega)];rw[show ag (t - 2)=n+14 by omega,show ag (t - 7)=n+9 by omega,show ag (t - 15)=n+1 by omega,show ag (t - 16)=n by omega];rw[anX (hl _),anW (hl _),sR,sR,sR];congr 1;omega
 .rw [if_neg Kw,if_neg (by omega)];exact hA j hj
theorem XM{v:Nat->Nat}(hv: ∀j,j<8->v j<2^32)(k w:Nat):
  ae .u32 ((ae .u32 ((ae .u32 ((ae .u32 (((v 7:Nat):Int)+(ar .cQ .u32 (ar .cQ .u32 (ar .cU .u32 (ar .shr .u32 ((v 4:Nat):Int) 6) (ar .shl .u32 ((v 4:Nat):Int) 26)) (ar .cU .u32 (ar .shr .u32 ((v 4:Nat):Int) 11) (ar .shl .u32 ((v 4:Nat):Int) 21))) (ar .cU .u32 (ar .shr .u32 ((v 4:Nat):Int) 25) (ar .shl .u32 ((v 4:Nat):Int) 7)))))+(ar .cQ .u32 (ar .gO .u32 ((v 4:Nat):Int) ((v 5:Nat):Int)) (ar .gO .u32 (ar .cQ .u32 4294967295 ((v 4:Nat):Int)) ((v 6:Nat):Int)))))+((k:Nat):Int)))+((w:Nat):Int))=((temp v k w:Nat):Int):=by
 rw[anZ (hv 4 (by omega)),an0 (hv 4 (by omega)) (hv 5 (by omega)) (hv 6 (by omega)),sR,sR,sR,sR];unfold temp;congr 1;omega
theorem TV{v:Nat->Nat}(hv: ∀j,j<8->v j<2^32):
  ae .u32 ((ar .cQ .u32 (ar .cQ .u32 (ar .cU .u32 (ar .shr .u32 ((v 0:Nat):Int) 2) (ar .shl .u32 ((v 0:Nat):Int) 30)) (ar .cU .u32 (ar .shr .u32 ((v 0:Nat):Int) 13) (ar .shl .u32 ((v 0:Nat):Int) 19))) (ar .cU .u32 (ar .shr .u32 ((v 0:Nat):Int) 22) (ar .shl .u32 ((v 0:Nat):Int) 10)))+(ar .cQ .u32 (ar .cQ .u32 (ar .gO .u32 ((v 0:Nat):Int) ((v 1:Nat):Int)) (ar .gO .u32 ((v 0:Nat):Int) ((v 2:Nat):Int))) (ar .gO .u32 ((v 1:Nat):Int) ((v 2:Nat):Int))))=(((S0 (v 0)+Zv (v 0) (v 1) (v 2))%2^32:Nat):Int):=by
 rw[anY (hv 0 (by omega)),ahz (hv 0 (by omega)) (hv 1 (by omega)) (hv 2 (by omega)),sR]
def eight(v:Nat->Nat)(a:Nat):List Int:=[((v 0:Nat):Int),((v 1:Nat):Int),((v 2:Nat):Int),((v 3:Nat):Int),((v 4:Nat):Int),((v 5:Nat):Int),((v 6:Nat):Int),((v 7:Nat):Int),(a:Int)]
theorem Kx(v:Nat->Nat)(k w a:Nat):[(((temp v k w+(S0 (v 0)+Zv (v 0) (v 1) (v 2))%2^32)%2^32:Nat):Int),((v 0:Nat):Int),((v 1:Nat):Int),((v 2:Nat):Int),(((v 3+temp v k w)%2^32:Nat):Int),((v 4:Nat):Int),((v 5:Nat):Int),((v 6:Nat):Int),(a:Int)+1]=eight (Sh.step v k w) (a+1):=by
 unfold eight;rw[TO,TP,ng v k w (j:=1) (by decide) (by decide) (by decide),ng v k w (j:=2) (by decide) (by decide) (by decide),ng v k w (j:=3) (by decide) (by decide) (by decide),ng v k w (j:=5) (by decide) (by decide) (by decide),
  ng v k w (j:=6) (by decide) (by decide) (by decide),ng v k w (j:=7) (by decide) (by decide) (by decide),Int.natCast_add a 1]
 simp only[Int.natCast_one]
theorem E3{K H B R:Nat->Nat}(hR:R=XI K (iu B 48) H 64)(j:Nat):comp K H B j=(H j+R j)%2^32:=by
 unfold comp;rw[hR]
abbrev gn(v:V1)(n:Nat)(A:Nat->Int):HP:=aA true 39 1 v.v n (aG n [ax .u32 1 A])
theorem H7(b:Nat)(vh vk vb:V1)(A0 A1 A2:Nat->Int)(K H B:Nat->Nat)(wI: ∀j,j<8->A0 j=(H j:Nat))(hH: ∀j,j<8->H j<2^32)
  (Zp: ∀j,j<64->A1 j=(K j:Nat)) (hA2: ∀j,j<64->A2 j=(B j:Nat)) (hB: ∀j,j<64->B j<256):
  ao ax8 98 [.pointer (some ⟨b,0,none⟩),vb.v] [wQ b vh vk,gn vh 8 A0,gn vk 64 A1,aA false 5 1 vb.v 64 (aG 64 [ax .u8 1 A2])]
   (λr hs=> ∃A:Nat->Int,r= .tuple #[]/\hs=[wQ b vh vk,gn vh 8 A,gn vk 64 A1]/\∀j,j<8->A j=((comp K H B j:Nat):Int)):=by
 refine TN _ A0 A1 A2 vh vk vb b ?_;unfold H3;intro v3;refine⟨λe=> ∃a:Nat,a<=64/\e.i=[(a:Int)]/\∀j,j<64->e.a.getD 0 (λ_=>0) j=((fill B a j:Nat):Int),λe=>(64 - e.i.getD 0 0).toNat,⟨0,λ_=>0,rfl,λ_ _=>rfl,0,by omega,rfl,λj _=>rfl⟩,?_⟩;rintro x1 A3 ⟨a,ha,hx,hA⟩;simp only[List.cons.injEq,and_true]at hx;subst hx;simp only[ah]at hA;have hq:=ahD (x:=(a:Int)) (by omega) (by omega);refine⟨λcC=>⟨by rw[hq];omega,λ_=>⟨by rw[hq];omega,λ_=>⟨by omega,λ_=>⟨by omega,λ_=>⟨by omega,λ_=>?_⟩⟩⟩⟩⟩,λlS=>?_⟩
 .refine⟨(a:Int)+1,_,rfl,λ_ _=>rfl,⟨a+1,by omega,rfl,λj hj=>?_⟩,?_⟩
  .simp only[ah];rw[hq,ax3,ax3,fill];unfold au;dsimp only;by_cases Kw:j=a/4
   .rw [if_pos Kw,if_pos Kw,hA _ (by omega),hA2 a (by omega),wrap_u32];have hb:=hB a (by omega);rw[Nat.mod_eq_of_lt (by omega),show ar .shl .u32 ((fill B a (a/4):Nat):Int) 8=_ from Zw (fill B a (a/4)) 8 (by decide),ahq (Nat.mod_lt _ (Nat.two_pow_pos 32)) (by omega)]
   .rw [if_neg Kw,if_neg Kw];exact hA j hj
  .simp only[ah];omega
 have Ky:a=64:=by omega
 subst Ky;refine⟨λe=> ∃a:Nat,16<=a/\a<=64/\e.i=[(a:Int)]/\∀j,j<64->e.a.getD 0 (λ_=>0) j=((iu B (a - 16) j:Nat):Int),λe=>(64 - e.i.getD 0 0).toNat,⟨16,A3,rfl,λ_ _=>rfl,16,by omega,by omega,rfl,λj hj=>?_⟩,?_⟩
 .simp only[ah];rw[hA j hj,TQ hB]
 rintro x2 A4 ⟨a,auO,ha,hx,hA4⟩;simp only[List.cons.injEq,and_true]at hx;subst hx;simp only[ah]at hA4;refine⟨λcC=>⟨by omega,λ_=>⟨by omega,λ_=>⟨by omega,λ_=>⟨by omega,λ_=>⟨by omega,λ_=>⟨by omega,λ_=>⟨by omega,λ_=>⟨by omega,λ_=>⟨by omega,λ_=>⟨by omega,λ_=>⟨by omega,λ_=>⟨by omega,λ_=>⟨by omega,λ_=>⟨by omega,λ_=>⟨by omega,λ_=>⟨by omega,λ_=>λb1 b2=>⟨by omega,λ_=>⟨by omega,λ_=>⟨by omega,λ_=>?_⟩⟩⟩⟩⟩⟩⟩⟩⟩⟩⟩⟩⟩⟩⟩⟩⟩⟩⟩,λlS=>λb1=>?_⟩
 .refine⟨(a:Int)+1,_,rfl,λ_ _=>rfl,⟨a+1,by omega,by omega,rfl,λj hj=>?_⟩,?_⟩
  .simp only[ah];have:=TU hB (t:=(a:Int)) (by omega) (by omega) (A:=A4) (by rw[ax3];exact hA4) j hj;rw[this,ax3,show a - 16+1=a+1 - 16 by omega]
  .simp only[ah];omega
 have Ky:a=64:=by omega
 subst Ky;have hv:=Kv (K:=K) (W:=iu B 48) hH;refine⟨λe=> ∃a:Nat,a<=64/\e.i=eight (XI K (iu B 48) H a) a,λe=>(64 - e.i.getD 8 0).toNat,⟨_,_,_,_,_,_,_,_,0,rfl,(wI 0 (by omega)).symm,(wI 1 (by omega)).symm,(wI 2 (by omega)).symm,(wI 3 (by omega)).symm,(wI 4 (by omega)).symm,(wI 5 (by omega)).symm,(wI 6 (by omega)).symm,(wI 7 (by omega)).symm,0,by omega,rfl⟩,?_⟩;rintro x3 x4 x5 x6 x7 x8 x9 bA bH ⟨a,ha,hx⟩;simp only[eight,List.cons.injEq,and_true]at hx;obtain⟨rfl,rfl,rfl,rfl,rfl,rfl,rfl,rfl,rfl⟩:=hx;refine⟨λcC=>⟨by omega,λ_=>λb2 b3=>⟨by omega,λ_=>⟨by omega,λ_=>?_⟩⟩⟩,λlS=>?_⟩
 .refine⟨_,_,_,_,_,_,_,_,(a:Int)+1,rfl,rfl,rfl,rfl,rfl,rfl,rfl,rfl,rfl,⟨a+1,by omega,?_⟩,?_⟩
  .have hk:A1 (ag (a:Int))=((K a:Nat):Int):=by rw[ax3];exact Zp a (by omega)
   have hw:A4 (ag (a:Int))=((iu B 48 a:Nat):Int):=by rw[ax3];exact hA4 a (by omega)
   rw[hk,hw,XM (hv a),TV (hv a),sR,sR];exact Kx _ _ _ _
  .simp only[ah,ayI];omega
 have Ky:a=64:=by omega
 subst Ky;obtain⟨R,hR⟩: ∃R:Nat->Nat,R=XI K (iu B 48) H 64:=⟨_,rfl⟩;have hc:=E3 hR;rw[<-hR];refine⟨λe=> ∃a:Nat,a<=8/\e.i=[(a:Int)]/\(∀j,j<8->e.a.getD 1 (λ_=>0) j=((R j:Nat):Int))/\∀j,j<8->e.a.getD 0 (λ_=>0) j=(((if j<a then comp K H B j else H j):Nat):Int),λe=>(8 - e.i.getD 0 0).toNat,
  ⟨0,A0,_,rfl,λ_ _=>rfl,λ_ _=>rfl,0,by omega,rfl,λj hj=>?_,λj hj=>?_⟩,?_⟩
 .simp only[ah,ayI];unfold au
  match j,hj with
  | 0,_=>rfl
  | 1,_=>rfl
  | 2,_=>rfl
  | 3,_=>rfl
  | 4,_=>rfl
  | 5,_=>rfl
  | 6,_=>rfl
  | 7,_=>rfl
 .simp only[ah];rw[if_neg (by omega)];exact wI j hj
 rintro bR A5 A6 ⟨a,ha,hx,h6,h5⟩;simp only[List.cons.injEq,and_true]at hx;subst hx;simp only[ah,ayI]at h6 h5;refine⟨λcC=>⟨by omega,λ_=>⟨by omega,λ_=>⟨by omega,λ_=>?_⟩⟩⟩,λlS=>?_⟩
 .refine⟨(a:Int)+1,_,A6,rfl,λ_ _=>rfl,λ_ _=>rfl,⟨a+1,by omega,rfl,h6,λj hj=>?_⟩,?_⟩
  .simp only[ah];rw[ax3];unfold au;by_cases hja:j=a
   .subst hja;rw[if_pos rfl,if_pos (by omega),h5 j hj,h6 j hj,if_neg (by omega),sR,hc]
   .rw [if_neg hja,h5 j hj];by_cases h:j<a
    .rw [if_pos h,if_pos (by omega)]
    .rw [if_neg h,if_neg (by omega)]
  .simp only[ah];omega
 have ha8:a=8:=by omega
 subst ha8;refine⟨A5,rfl,rfl,λj hj=>?_⟩;rw[h5 j hj,if_pos hj]
theorem Mj{f:Nat->Int}{i j:Nat}{x:Int}(h:j≠i):au f i x j=f j:=by
 unfold au;rw[if_neg h]
theorem ahH{A:Nat->Int}{C:Nat->Nat}(h: ∀j,j<8->A j=((C j:Nat):Int))(j:Nat)(hj:j<32):
  (au (au (au (au (au (au (au (au (au (au (au (au (au (au (au (au (au (au (au (au (au (au (au (au (au (au (au (au (au (au (au (au (λ_=>0) 0 (ae .u8 (ar .shr .u32 (A 0) 24))) 1 (ae .u8 (ar .shr .u32 (A 0) 16))) 2 (ae .u8 (ar .shr .u32 (A 0) 8))) 3 (ae .u8 (ar .shr .u32 (A 0) 0))) 4 (ae .u8 (ar .shr .u32 (A 1) 24))) 5 (ae .u8 (ar .shr .u32 (A 1) 16))) 6 (ae .u8 (ar .shr .u32 (A 1) 8))) 7 (ae .u8 (ar .shr .u32 (A 1) 0))) 8 (ae .u8 (ar .shr .u32 (A 2) 24))) 9 (ae .u8 (ar .shr .u32 (A 2) 16))) 10 (ae .u8 (ar .shr .u32 (A 2) 8))) 11 (ae .u8 (ar .shr .u32 (A 2) 0))) 12 (ae .u8 (ar .shr .u32 (A 3) 24))) 13 (ae .u8 (ar .shr .u32 (A 3) 16))) 14 (ae .u8 (ar .shr .u32 (A 3) 8))) 15 (ae .u8 (ar .shr .u32 (A 3) 0))) 16 (ae .u8 (ar .shr .u32 (A 4) 24))) 17 (ae .u8 (ar .shr .u32 (A 4) 16))) 18 (ae .u8 (ar .shr .u32 (A 4) 8))) 19 (ae .u8 (ar .shr .u32 (A 4) 0))) 20 (ae .u8 (ar .shr .u32 (A 5) 24))) 21 (ae .u8 (ar .shr .u32 (A 5) 16))) 22 (ae .u8 (ar .shr .u32 (A 5) 8))) 23 (ae .u8 (ar .shr .u32 (A 5) 0))) 24 (ae .u8 (ar .shr .u32 (A 6) 24))) 25 (ae .u8 (ar .shr .u32 (A 6) 16))) 26 (ae .u8 (ar .shr .u32 (A 6) 8))) 27 (ae .u8 (ar .shr .u32 (A 6) 0))) 28 (ae .u8 (ar .shr .u32 (A 7) 24))) 29 (ae .u8 (ar .shr .u32 (A 7) 16))) 30 (ae .u8 (ar .shr .u32 (A 7) 8))) 31 (ae .u8 (ar .shr .u32 (A 7) 0))) j=((Sh.bytesOf C j:Nat):Int):=by
 rw[h 0 (by omega),h 1 (by omega),h 2 (by omega),h 3 (by omega),h 4 (by omega),h 5 (by omega),h 6 (by omega),h 7 (by omega)];have:j=0\/j=1\/j=2\/j=3\/j=4\/j=5\/j=6\/j=7\/j=8\/j=9\/j=10\/j=11\/j=12\/j=13\/j=14\/j=15\/j=16\/j=17\/j=18\/j=19\/j=20\/j=21\/j=22\/j=23\/j=24\/j=25\/j=26\/j=27\/j=28\/j=29\/j=30\/j=31:=by omega
 clear hj h;rcases this with rfl | rfl | rfl | rfl | rfl | rfl | rfl | rfl | rfl | rfl | rfl | rfl | rfl | rfl | rfl | rfl | rfl | rfl | rfl | rfl | rfl | rfl | rfl | rfl | rfl | rfl | rfl | rfl | rfl | rfl | rfl | rfl
 .exact cf (C 0) 24 (by decide)
 .exact cf (C 0) 16 (by decide)
 .exact cf (C 0) 8 (by decide)
 .exact cf (C 0) 0 (by decide)
 .exact cf (C 1) 24 (by decide)
 .exact cf (C 1) 16 (by decide)
 .exact cf (C 1) 8 (by decide)
 .exact cf (C 1) 0 (by decide)
 .exact cf (C 2) 24 (by decide)
 .exact cf (C 2) 16 (by decide)
 .exact cf (C 2) 8 (by decide)
 .exact cf (C 2) 0 (by decide)
 .exact cf (C 3) 24 (by decide)
 .exact cf (C 3) 16 (by decide)
 .exact cf (C 3) 8 (by decide)
 .exact cf (C 3) 0 (by decide)
 .exact cf (C 4) 24 (by decide)
 .exact cf (C 4) 16 (by decide)
 .exact cf (C 4) 8 (by decide)
 .exact cf (C 4) 0 (by decide)
 .exact cf (C 5) 24 (by decide)
 .exact cf (C 5) 16 (by decide)
 .exact cf (C 5) 8 (by decide)
 .exact cf (C 5) 0 (by decide)
 .exact cf (C 6) 24 (by decide)
 .exact cf (C 6) 16 (by decide)
 .exact cf (C 6) 8 (by decide)
 .exact cf (C 6) 0 (by decide)
 .exact cf (C 7) 24 (by decide)
 .exact cf (C 7) 16 (by decide)
 .exact cf (C 7) 8 (by decide)
 .exact cf (C 7) 0 (by decide)
end Go.RX.Fm

namespace Go.RX.Fk
open Go Go.RX Go.Proofs Go.Ae Go.RX.Sh Go.RX.Fe Go.RX.Fg Go.RX.Fi Go.RX.Fj Go.Gh
def Pa(m j:Nat):Nat:=m/256^(7 - j)%256
theorem XO(m j:Nat):Pa m j<256:=Nat.mod_lt _ (by decide)
end Go.RX.Fk

namespace Go.RX.Fh
open Go.RX Go.Proofs Go.RX.Fe Go.RX.Fg
noncomputable def cx:Ctx:={T:=TT,FT:=FT,loops:=Fh.loops,bj:=Fh.bj}
set_option maxRecDepth 100000
open Go Go.RX Go.Proofs Go.Ae Go.RX.Sh Go.RX.Fe Go.RX.Fg Go.Gh
theorem ahI(a n:Nat)(hn:n<=64):ar .shl .u64 (a:Int) (n:Int)=((a*2^n%2^64:Nat):Int):=by
 show ae .u64 ((a:Int)*2^(min (ag (n:Int)) 64))=_;rw[show min (ag (n:Int)) 64=n by rw[ax3];omega,show((a:Int)*2^n)=((a*2^n:Nat):Int) by rw[Int.natCast_mul,Int.natCast_pow];rfl,wrap_u64]
end Go.RX.Fh

namespace Go.RX.Sh
open Go.RX Go.RX.Fk
def y_(M:Nat->Nat):Nat->Nat->Nat
 | 0=>H0
 | q+1=>comp K0 (y_ M q) (λi=>M (64*q+i))
theorem Kz(M:Nat->Nat): ∀q j,j<8->y_ M q j<2^32
 | 0,j,hj=>ahC j hj
 | _+1,j,_=>XL j
def eH(n:Nat):Nat:=64*((n+8)/64+1)
def lX(n:Nat)(M:Nat->Nat)(j:Nat):Nat:=if j<n then M j else if j=n then 128 else if j<eH n - 8 then 0 else Pa (n*8) (j - (eH n - 8))
theorem Mk{M:Nat->Nat}(hM: ∀j,M j<256)(n j:Nat):lX n M j<256:=by
 unfold lX;split
 .exact hM j
 split
 .decide
 split
 .decide
 .exact XO _ _
def yg(n:Nat)(M:Nat->Nat):Nat->Nat:=Sh.bytesOf (y_ (lX n M) ((n+8)/64+1))
theorem XP(n:Nat)(M:Nat->Nat)(j:Nat):yg n M j<256:=TR _ j
theorem lb{n:Nat}(h:n<2^60)(s:Nat)(hs:s<=64):ae .u8 (ar .shr .u64 (ar .shl .u64 (n:Int) 3) (s:Int))=((n*8/2^s%256:Nat):Int):=by
 have h1:ar .shl .u64 (n:Int) 3=((n*8:Nat):Int):=by
  have:=Fh.ahI n 3 (by decide);rw[show((3:Nat):Int)=3 from rfl]at this;rw[this];congr 1;omega
 rw[h1,tu .u64 _ s hs,wrap_u8,Nat.shiftRight_eq_div_pow]
theorem acK{n:Nat}(h:n<2^60)(j:Nat)(hj:j<8):
  (au (au (au (au (au (au (au (au (λ_=>0) 7 (ae .u8 (ar .shr .u64 (ar .shl .u64 (n:Int) 3) 0))) 6 (ae .u8 (ar .shr .u64 (ar .shl .u64 (n:Int) 3) 8))) 5 (ae .u8 (ar .shr .u64 (ar .shl .u64 (n:Int) 3) 16))) 4 (ae .u8 (ar .shr .u64 (ar .shl .u64 (n:Int) 3) 24))) 3 (ae .u8 (ar .shr .u64 (ar .shl .u64 (n:Int) 3) 32))) 2 (ae .u8 (ar .shr .u64 (ar .shl .u64 (n:Int) 3) 40))) 1 (ae .u8 (ar .shr .u64 (ar .shl .u64 (n:Int) 3) 48))) 0 (ae .u8 (ar .shr .u64 (ar .shl .u64 (n:Int) 3) 56))) j=(Pa (n*8) j:Nat):=by
 unfold Pa
 match j,hj with
 | 0,_=>exact lb h 56 (by decide)
 | 1,_=>exact lb h 48 (by decide)
 | 2,_=>exact lb h 40 (by decide)
 | 3,_=>exact lb h 32 (by decide)
 | 4,_=>exact lb h 24 (by decide)
 | 5,_=>exact lb h 16 (by decide)
 | 6,_=>exact lb h 8 (by decide)
 | 7,_=>exact lb h 0 (by decide)
 | j+8,h=>exact absurd h (by omega)
end Go.RX.Sh

namespace Go.RX
theorem bq.idx{a b:List HP}(idx:List Nat)(iT:idx.Nodup)(h: ∀(j:Nat) x,b[j]? =some x->∃i,idx[j]? =some i/\a[i]? =some x):bq a b:=by
 intro w Fs o;refine o.vW (λj=>if j<b.length then idx[j]? else some (a.length+(j - b.length))) ?_ ?_
 .intro j x hx;right;by_cases hj:j<b.length
  .rw [axX hj]at hx;obtain⟨i,h1,h2⟩:=h j x hx;refine⟨i,by simp only[hj,if_true,h1],?_⟩;rw[axX (axT.1 h2).1];exact h2
  .rw [axY (by omega)]at hx;refine⟨_,by simp only[hj,if_false];rfl,?_⟩;rw[axY (by omega),Nat.add_sub_cancel_left];exact hx
 .intro j j' i hj eF _ _;by_cases h1:j<b.length
  .have hx:b[j]? =some b[j]:=ays h1;obtain⟨i1,q1,q2⟩:=h j _ hx;have Qf:=(axT.1 q2).1;simp only[h1,if_true,q1,axU]at hj;subst hj;by_cases h2:j'<b.length
   .simp only[h2,if_true]at eF;obtain⟨l1,e1⟩:=axT.1 q1;obtain⟨l2,e2⟩:=axT.1 eF;exact(List.getElem_inj iT).1 (e1.trans e2.symm)
   .simp only[h2,if_false,axU]at eF;omega
  .simp only[h1,if_false,axU]at hj;by_cases h2:j'<b.length
   .have hx:b[j']? =some b[j']:=ays h2;obtain⟨i1,q1,q2⟩:=h j' _ hx;have Qf:=(axT.1 q2).1;simp only[h2,if_true,q1,axU]at eF;omega
   .simp only[h2,if_false,axU]at eF;omega
theorem bq.at3{a:List HP}{i j k:Nat}{x y z:HP}(hi:a[i]? =some x)(hj:a[j]? =some y)(hk:a[k]? =some z)(hn:[i,j,k].Nodup):bq a [x,y,z]:=by
 refine bq.idx [i,j,k] hn λm u hu=>?_
 match m,hu with
 | 0,hu=>cases hu;exact⟨i,rfl,hi⟩
 | 1,hu=>cases hu;exact⟨j,rfl,hj⟩
 | 2,hu=>cases hu;exact⟨k,rfl,hk⟩
 | m+3,hu=>simp at hu
end Go.RX
namespace Go.RX.Fm
open Go Go.RX Go.Proofs Go.RX.Sh Go.RX.Fg Go.RX.Fj Go.RX.Fk
set_option maxRecDepth 100000 in
theorem E4:ao ax8 46 [] [] (λr hs=> ∃b:Nat,∃vh vk:V1,∃A B:Nat->Int,r= .pointer (some ⟨b,0,none⟩)/\
  hs=[wQ b vh vk,gn vh 8 A,gn vk 64 B]/\(∀j,j<8->A j=((H0 j:Nat):Int))/\∀j,j<64->B j=((K0 j:Nat):Int)):=by
 refine ao.post (p:=λr hs=> ∃b:Nat,∃vh vk:V1,∃A B:Nat->Int,r= .pointer (some ⟨b,0,none⟩)/\hs[2]? =some (gn vh 8 A)/\hs[12]? =some (gn vk 64 B)/\
  hs[76]? =some (wQ b vh vk)/\(∀j,j<8->A j=((H0 j:Nat):Int))/\∀j,j<64->B j=((K0 j:Nat):Int)) ?_ ?_
 rotate_left
 .rintro r hs ⟨b,vh,vk,A,B,rfl,h1,h2,h3,h4,h5⟩;exact⟨_,bq.at3 h3 h1 h2 (by decide),b,vh,vk,A,B,rfl,rfl,h4,h5⟩
 refine O_ _ ?_;unfold D2
 intros
 exact⟨_,_,_,_,_,rfl,rfl,rfl,rfl,by decide+kernel,by decide+kernel⟩
theorem za{B:List HP}{x:Value}(b:Nat)(vh vk:V1)(hx:x.oneCell'=true)(A0 A1:Nat->Int)(K H T:Nat->Nat)(wI: ∀j,j<8->A0 j=(H j:Nat))(hH: ∀j,j<8->H j<2^32)
  (Zp: ∀j,j<64->A1 j=(K j:Nat)) (hT: ∀j,T j<256) (hb:aZ B (pL x 64 T)):
  ao ax8 98 [.pointer (some ⟨b,0,none⟩),x] ([wQ b vh vk,gn vh 8 A0,gn vk 64 A1]++B)
   λr hs=> ∃A:Nat->Int,r= .tuple #[]/\hs=[wQ b vh vk,gn vh 8 A,gn vk 64 A1]++B/\∀j,j<8->A j=((comp K H T j:Nat):Int):=by
 have hm:ao ax8 98 [.pointer (some ⟨b,0,none⟩),x] ([wQ b vh vk,gn vh 8 A0,gn vk 64 A1]++[pL x 64 T]) λr hs=> ∃A:Nat->Int,r= .tuple #[]/\hs=[wQ b vh vk,gn vh 8 A,gn vk 64 A1]/\∀j,j<8->A j=((comp K H T j:Nat):Int):=
  H7 b vh vk ⟨x,hx⟩ A0 A1 (λj=>(T j:Nat)) K H T wI hH Zp (λ_ _=>rfl) (λj _=>hT j)
 refine ao.post (ao.C3 hm ?_ (ahG hb)) ?_
 .rintro v hs ⟨A,_,rfl,_⟩ h hh;simp only[List.mem_cons,List.not_mem_nil,or_false]at hh;rcases hh with rfl | rfl | rfl<;>rfl
 .rintro v hs ⟨zF,⟨A,hr,rfl,hA⟩,rfl⟩;exact⟨_,bq.refl _,A,hr,rfl,hA⟩
theorem TW{z:V1}{r:Nat}{B:Nat->Int}{T:Nat->Nat}(h:64<=r)(hB: ∀j,j<r->B j=(T j:Nat)):aZ [aA true 5 1 z.v r (aG r [ax .u8 1 B])] (pL (aK 1 z.v 0 64 none) 64 T):=by
 have e:aA true 5 1 z.v r (aG r [ax .u8 1 B])=dL true z r T:=by
  unfold dL;rw[oC hB]
 rw[e];have:=aZ.part (lo:=0) (hi:=64) (mx:=none) (aZ.bytes (v:=z) (n:=r) (T:=T)) (by omega) h (λ_ h=>nomatch h);simpa using this
end Go.RX.Fm
