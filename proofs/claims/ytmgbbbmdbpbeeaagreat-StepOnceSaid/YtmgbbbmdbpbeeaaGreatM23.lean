/- Polynomials. -/
import Derived.Test.YtmgbbbmdbpbeeaaGreatM22
import Derived.Test.YtmgbbbmdbpbeeaaGreatM17
open Go.IntKind renaming wrap → ae
open Go.Proofs.Tryz renaming prog → aiT
open Int renaming toNat → ag, toNat_natCast → aiX
open List renaming append → aiL, append_assoc → ajs, append_eq → ajp, getD_cons_succ → aiS, getD_cons_zero → ah, getElem?_eq_some_iff → aiN, mem_cons → ai0, not_mem_nil → aiZ
open List.cons renaming injEq → ai5
open Nat renaming mod_eq_of_lt → ajm
namespace Go.RX.Fh
open Go Go.RX Go.Proofs Go.Ae Go.RX.Sh Go.RX.Fe Go.RX.Fg Go.Gh
theorem OJ(a b:Nat):ak .jJ .i64 (a:Int) (b:Int)=((min a b:Nat):Int):=by
 show(if(b:Int)<(a:Int)then(b:Int)else(a:Int))=_;split<;>omega
theorem HB(v:V1)(H T:Nat→Nat)(hH: ∀j,H j<256)(hT: ∀j,T j<256)(len:Nat):ax aiT 111 [bY H,v.v] [aq true v len T] fun x hs=>x=bY (qc H T len)∧hs=[]:=by
 have h:=ax.kf (C:=Fh.cx) (aV:={i:=1,a:=2,v:=1}) (ρ:={iv:=[(len:Int)],av:=[fun j=>(H j:Nat),fun j=>(T j:Nat)],vv:=[v]}) Ew pZ Ex Tryz.func111 (by constructor<;>rfl)
  (ao:=fun x _=>x=bY (qc H T len)) (args:=[.agg [.b_ .u8 16 (.aN 0)],.vv 0]) (hp:=[.bK true 0 5 1 (.var 0) (Fg.cB 1)]) Oa (Rm aiT (fun x _=>x=bY (qc H T len)) (len:Int) (fun j=>(H j:Nat)) (fun j=>(T j:Nat)) v (fun _=>LC.none)) ?_
 ·have hv:SV.bH {iv:=[(len:Int)],av:=[fun j=>(H j:Nat),fun j=>(T j:Nat)],vv:=[v]} [.agg [.b_ .u8 16 (.aN 0)],.vv 0]=[bY H,v.v]:=by
   show [Value.agg (aiL (aj .u8 16 fun j=>(H j:Nat)) []).toArray,_]=_;rw [ajp,List.append_nil];rfl
  rw [hv]at h;exact ax.post h fun x hs hq=>⟨[],bL.sub (List.nil_sublist _),hq,rfl⟩
 unfold Jk;intro _ _;refine⟨fun x hs=>x=l_ (pb H)∧hs=[],by rw [dZ (B:=H) fun j _=>rfl];exact ES H hH,?_⟩;rintro x hs ⟨rfl,rfl⟩;refine⟨_,_,rfl,rfl,?_⟩;intro _ _;refine⟨by omega,fun _=>?_⟩;intro v1;refine⟨fun e=> ∃r:Nat,16*r<len+16∧e.i.getD 0 0=(num (gh (pb H) T len r) 64:Nat)∧e.i.getD 1 0=(num (fun i=>gh (pb H) T len r (64+i)) 64:Nat)∧e.i.getD 2 0=((len - 16*r:Nat):Int)∧∀j,j<len - 16*r→(e.a.getD 0 fun _=>0) j=(T (16*r+j):Nat),
  fun e=>(e.i.getD 2 0).toNat,⟨v1,0,0,len,fun j=>(T j:Nat),rfl,rfl,rfl,fun _ _=>rfl,rfl,rfl,0,by omega,?_,?_,?_,?_⟩,?_⟩
 ·show(0:Int)=((num (fun _=>false) 64:Nat):Int);decide
 ·show(0:Int)=((num (fun _=>false) 64:Nat):Int);decide
 ·simp
 ·intro j _;simp
 rintro v2 x3 x4 x5 A2 ⟨r,hr,h3,h4,h5,hA⟩;simp only [ah,aiS]at h3 h4 h5 hA;subst h3 h4 h5;rw [show ak .jJ .i64 ((len - 16*r:Nat):Int) 16=((min (len - 16*r) 16:Nat):Int)from OJ _ 16];refine⟨by omega,fun _=>⟨fun bX=>?_,fun jI=>?_⟩⟩
 ·intro _;have hB:=Vm T hT len r;refine⟨by omega,fun _=>⟨by omega,fun _=>⟨fun x hs=>x=l_ (pb (oZ T len r))∧hs=[],?_,?_⟩⟩⟩
  ·rw [dZ (B:=oZ T len r)]
   ·exact ES _ hB
   ·intro j hj;rw [aiX];unfold ay oZ;by_cases WJ:16*r+j<len
    ·rw [if_pos (by omega),if_pos WJ,Nat.sub_zero,hA j (by omega)]
    ·rw [if_neg (by omega),if_neg WJ];rfl
  rintro x hs ⟨rfl,rfl⟩;refine⟨_,_,rfl,rfl,?_⟩;intro _ _ _;have hx: ∀a b:Nat→Bool,ak .aB .u64 ((num a 64:Nat):Int) ((num b 64:Nat):Int)=((num (fun i=>a i ^^ b i) 64:Nat):Int):=fun a b=>by rw [Oo (kW _ _) (kW _ _),JA]
  rw [hx,hx];refine⟨fun x hs=>x=l_ (gh (pb H) T len (r+1))∧hs=[],ET (add (gh (pb H) T len r) (pb (oZ T len r))) (pb H),?_⟩;rintro x hs ⟨rfl,rfl⟩;refine⟨_,_,rfl,rfl,?_⟩
  iterate 3 refine⟨by omega,fun _=>?_⟩
  intro v3;refine⟨v3,_,_,((len - 16*(r+1):Nat):Int),_,rfl,rfl,by omega,fun _ _=>rfl,rfl,rfl,⟨r+1,by omega,rfl,rfl,rfl,?_⟩,?_⟩
  ·intro j hj;simp only [ah];unfold aI;rw [aiX,hA _ (by omega)];congr 2;omega
  ·simp only [ah,aiS];omega
 ·refine⟨fun x hs=>x=bY (qc H T len)∧hs=[],?_,?_⟩
  ·have e:qc H T len=bp (gh (pb H) T len r):=by
    unfold qc;rw [show(len+15)/16=r by omega]
   rw [e];exact vZ _
  rintro x hs ⟨rfl,rfl⟩;refine⟨fun j=>(qc H T len j:Nat),by unfold bY;rw [ajp,List.append_nil],rfl,?_⟩;exact dZ fun j _=>rfl
end Go.RX.Fh

namespace Go.RX.Fg
open Go Go.RX Go.Proofs Go.Ae
theorem or8{a b:Nat}(ha:a<256)(hb:b<256):ak .bC .u8 (a:Int) (b:Int)=((a|||b:Nat):Int):=by
 show ae .u8 ((BitVec.ofInt 8 (a:Int)|||BitVec.ofInt 8 (b:Int)).toNat:Int)=_;rw [Sh.wrap_u8,BitVec.toNat_or,Sh.cm,Sh.cm,ajm ha,ajm hb,ajm (Nat.or_lt_two_pow (n:=8) ha hb)]
theorem bL.JE{a:List HP}{x:HP}(i:Nat)(h:a[i]? =some x):bL a [x]:=by
 obtain⟨hl,he⟩:=aiN.1 h;refine bL.sub ?_;rw [List.singleton_sublist];exact he▸List.getElem_mem hl
def aH(x:Value)(n:Nat)(T:Nat→Nat):HP:=aG false 5 1 x n (aW n [bd .u8 1 fun j=>(T j:Nat)])
theorem ar.bytes{v:V1}{n:Nat}{T:Nat→Nat}:ar [aq true v n T] (aH v.v n T):=ar.own
theorem ar.view{v:V1}{n:Nat}{T:Nat→Nat}:ar [aq false v n T] (aH v.v n T):=ar.self rfl
theorem EW(k:IntKind)(n lo m:Nat)(f:Nat→Int)(h:lo+m≤n):((aW n [bd k 1 f]).drop (lo*1)).take (m*1)=aW m [bd k 1 fun j=>f (lo+j)]:=by
 rw [iH,iH,Nat.mul_one,Nat.mul_one,rp,dv k (n - lo) m _ (by omega)]
theorem ar.part{B:List HP}{x:Value}{n lo hi:Nat}{mx:Option Nat}{T:Nat→Nat}(hb:ar B (aH x n T))(h1:lo≤hi)(h2:hi≤n)(h3: ∀m,mx=some m→hi≤m):
  ar B (aH (aC 1 x lo hi mx) (hi - lo) fun j=>T (lo+j)):=by
 have:=ar.sub (lo:=lo) (hi:=hi) (mx:=mx) hb h1 h2 h3;rw [EW .u8 n lo (hi - lo) _ (by omega)]at this;exact this
theorem oK{x:Value}{n:Nat}{T T':Nat→Nat}(h: ∀j,j<n→T j=T' j):aH x n T=aH x n T':=by
 unfold aH;rw [bJ fun j hj=>by rw [h j hj]]
theorem ar.block{b n m:Nat}{wr:Bool}{A:Nat→Int}{T:Nat→Nat}(hA: ∀j,j<n→A j=(T j:Nat))(hm:n≤m):ar [al b wr (aj .u8 n A)] (aH (.slice (some ⟨b,0,none⟩) n m) n T):=by
 have:=ar.row (t:=5) (b:=b) (wr:=wr) (lo:=0) (n:=n) (m:=m) (cs:=aj .u8 n A) (by simp [aF]) hm;rw [List.drop_zero,dv .u8 n n _ (Nat.le_refl _)]at this;unfold aH;rw [iH,aP .u8 n fun j hj=>(hA j hj).symm];exact this
theorem gM{B:List HP}{x:Value}(hx:x.oneCell'=true)(b lb:Nat)(v:V1)(n:Nat)(hn:0<n)(Lm:n<100)(K C T:Nat→Nat)(hK: ∀j,K j<256)(hC: ∀j,C j<256)(hT: ∀j,T j<256)(len:Nat)(hl:len≤140737488355328)(hb:ar B (aH x len T)):
  ax aiT 62 [.pointer (some ⟨b,0,none⟩),bY C,.slice (some ⟨lb,0,none⟩) 1 1] ([Fe.dp b v,Fe.ib v n K,al lb true [x]]++B) fun r hs=> ∃o:V1,r= .tuple #[o.v,.int .i64 0]∧hs=[Fe.dp b v,Fe.ib v n K,al lb true [x]]++B++[aq true o len (eZ n K C T)]:=by
 have h:=Hv b lb v ⟨x,hx⟩ n hn Lm K C T hK hC hT len hl;have h2:ax aiT 62 [.pointer (some ⟨b,0,none⟩),bY C,.slice (some ⟨lb,0,none⟩) 1 1] ([Fe.dp b v,Fe.ib v n K,al lb true [x]]++[aH x len T]) fun r hs=> ∃nw,(∃o:V1,r= .tuple #[o.v,.int .i64 0]∧nw=[aq true o len (eZ n K C T)])∧hs=[Fe.dp b v,Fe.ib v n K,al lb true [x]]++nw:=by
  refine ax.post h ?_;rintro r hs ⟨o,hr,rfl⟩;exact⟨_,bL.sub (by repeat (first | exact List.Sublist.slnil | apply List.Sublist.cons_cons | apply List.Sublist.cons)),_,⟨o,hr,rfl⟩,rfl⟩
 refine ax.post (ax.kX h2 ?_ ?_ ?_) ?_
 ·intro h hh;simp only [ai0,aiZ,or_false]at hh;rcases hh with rfl | rfl | rfl<;>rfl
 ·rintro v nw ⟨o,_,rfl⟩ h hh;simp only [ai0,aiZ,or_false]at hh;subst hh;rfl
 ·intro h hh;simp only [ai0,aiZ,or_false]at hh;subst hh;exact hb
 ·rintro r hs ⟨nw,⟨o,hr,rfl⟩,rfl⟩;exact⟨_,bL.refl _,o,hr,rfl⟩
end Go.RX.Fg

namespace Go.Gc
open Go.Ae Go.Gh
def eP(N:Nat→Nat)(c j:Nat):Nat:=if j<12 then N j else if j=15 then c else 0
theorem jy{N:Nat→Nat}(hN: ∀j,N j<256){c:Nat}(hc:c<256)(j:Nat):eP N c j<256:=by
 unfold eP;split
 ·exact hN j
 split
 ·exact hc
 ·decide
def gi(n:Nat):Nat:=(16 - n%16)%16
theorem JF(n:Nat):gi n<16:=Nat.mod_lt _ (by decide)
def RV(n1 n2 k:Nat):Nat:=if k<8 then n1*8%2^64/2^(56 - 8*k)%256 else n2*8%2^64/2^(56 - 8*(k - 8))%256
theorem RW(n1 n2 k:Nat):RV n1 n2 k<256:=by
 unfold RV;split<;>exact Nat.mod_lt _ (by decide)
def JG(n1:Nat)(A:Nat→Nat)(n2:Nat)(T:Nat→Nat)(j:Nat):Nat:=
 if j<n1 then A j
 else if j<n1+gi n1 then 0
 else if j<n1+gi n1+n2 then T (j - (n1+gi n1))
 else if j<n1+gi n1+n2+gi n2 then 0
 else RV n1 n2 (j - (n1+gi n1+n2+gi n2))
theorem Vn{n1 n2:Nat}{A T:Nat→Nat}(hA: ∀j,A j<256)(hT: ∀j,T j<256)(j:Nat):JG n1 A n2 T j<256:=by
 unfold JG;split
 ·exact hA _
 split
 ·decide
 split
 ·exact hT _
 split
 ·decide
 ·exact RW _ _ _
def Vo(n1 n2:Nat):Nat:=n1+gi n1+n2+gi n2+16
def lv(n:Nat)(K N:Nat→Nat)(n1:Nat)(A:Nat→Nat)(n2:Nat)(T:Nat→Nat):Nat→Nat:=
 eZ n K (eP N 1) (qc (enc n K fun _=>0) (JG n1 A n2 T) (Vo n1 n2))
theorem tF{n:Nat}{K B T:Nat→Nat}(hK: ∀j,K j<256)(hB: ∀j,B j<256)(hT: ∀j,T j<256)(j:Nat):eZ n K B T j<256:=by
 unfold eZ;exact Nat.xor_lt_two_pow (n:=8) (hT j) (CB n K _ hK (CF B hB _) _)
theorem CJ{n:Nat}{K N:Nat→Nat}(hK: ∀j,K j<256)(hN: ∀j,N j<256)(n1:Nat)(A:Nat→Nat)(n2:Nat)(T:Nat→Nat)(j:Nat):lv n K N n1 A n2 T j<256:=
 tF hK (jy hN (by decide)) (EV _ _ _) j
def d_(n:Nat)(K N T:Nat→Nat):Nat→Nat:=eZ n K (nx (eP N 1)) T
theorem tL{n:Nat}{K N T:Nat→Nat}(hK: ∀j,K j<256)(hN: ∀j,N j<256)(hT: ∀j,T j<256)(j:Nat):d_ n K N T j<256:=tF hK (Bl _ (jy hN (by decide))) hT j
def jO(n:Nat)(K N:Nat→Nat)(n1:Nat)(A:Nat→Nat)(n2:Nat)(T:Nat→Nat)(j:Nat):Nat:=
 if j<n2 then d_ n K N T j else lv n K N n1 A n2 (d_ n K N T) (j - n2)
theorem OK{n:Nat}{K N T:Nat→Nat}(hK: ∀j,K j<256)(hN: ∀j,N j<256)(hT: ∀j,T j<256)(n1:Nat)(A:Nat→Nat)(n2 j:Nat):jO n K N n1 A n2 T j<256:=by
 unfold jO;split
 ·exact tL hK hN hT j
 ·exact CJ hK hN _ _ _ _ _
end Go.Gc

namespace Go.RX.Fi
open Go Go.RX Go.Proofs Go.Ae Go.RX.Sh Go.RX.Fe Go.RX.Fg Go.RX.Fh Go.Gh Go.Gc
def eW(N:Nat→Nat):Value:= .agg (aiL (aj .u8 12 fun j=>(N j:Nat)) []).toArray
theorem fx(N:Nat→Nat):ax aiT 88 [eW N] [] fun x hs=>x=bY (eP N 1)∧hs=[]:=by
 refine OH _ (fun j=>(N j:Nat)) ?_;unfold EU;intro _ _ _;refine⟨?_,rfl⟩;unfold bY;congr 2
def nQ(n m:Nat)(A B:Nat→Nat):Bool:=decide (n=m∧∀j,j<n→A j=B j)
def diff(A B:Nat→Nat):Nat→Nat
 | 0=>0
 | n+1=>diff A B n|||(A n^^^B n)
theorem xor_zero{a b:Nat}:a^^^b=0↔a=b:=by
 constructor
 ·intro h;have:=congrArg (· ^^^b) h;simp only [Nat.xor_assoc,Nat.xor_self,Nat.xor_zero,Nat.zero_xor]at this;exact this
 ·rintro rfl;exact Nat.xor_self a
theorem Br(A B:Nat→Nat): ∀n,diff A B n=0↔∀j,j<n→A j=B j
 | 0=>by simp [diff]
 | n+1=>by
  rw [diff,Nat.or_eq_zero_iff,Br A B n,xor_zero];constructor
  ·rintro ⟨h1,h2⟩ j hj;rcases Nat.lt_succ_iff_lt_or_eq.1 hj with h | rfl
   ·exact h1 j h
   ·exact h2
  ·intro h;exact⟨fun j hj=>h j (by omega),h n (by omega)⟩
theorem JH{A B:Nat→Nat}(hA: ∀j,A j<256)(hB: ∀j,B j<256): ∀n,diff A B n<256
 | 0=>by simp [diff]
 | n+1=>Nat.or_lt_two_pow (n:=8) (JH hA hB n) (Nat.xor_lt_two_pow (n:=8) (hA n) (hB n))
theorem HC(v1 v2:V1)(n m:Nat)(A B:Nat→Nat)(hA: ∀j,A j<256)(hB: ∀j,B j<256)(hn:n≤140737488355328):
  ax aiT 68 [v1.v,v2.v] [aq false v1 n A,aq false v2 m B] fun x hs=>x= .bool (nQ n m A B)∧hs=[]:=by
 refine IB _ (n:Int) (m:Int) (fun j=>(A j:Nat)) (fun j=>(B j:Nat)) v1 v2 ?_;unfold wY;refine⟨by omega,fun _=>⟨by omega,fun _=>⟨fun dI=>?_,fun heq=>?_⟩⟩⟩
 ·refine⟨?_,rfl⟩;congr 1;unfold nQ;rw [decide_eq_false];omega
 ·have To:n=m:=by omega
  subst To;refine⟨fun e=> ∃i:Nat,i≤n∧e.i=[(i:Int),(diff A B i:Nat)],fun e=>(n - e.i.getD 0 0).toNat,⟨0,0,rfl,rfl,0,by omega,rfl⟩,?_⟩;rintro x2 x3 ⟨i,hi,hx⟩;simp only [ai5,and_true]at hx;obtain⟨rfl,rfl⟩:=hx;refine⟨fun bX=>?_,fun jI=>?_⟩
  ·iterate 4 refine⟨by omega,fun _=>?_⟩
   refine⟨(i:Int)+1,(diff A B (i+1):Nat),rfl,?_,⟨i+1,by omega,rfl⟩,?_⟩
   ·rw [aiX,cF (hA i) (hB i),or8 (JH hA hB i) (Nat.xor_lt_two_pow (n:=8) (hA i) (hB i))];rfl
   ·simp only [ah];omega
  ·have:i=n:=by omega
   subst this;refine⟨?_,rfl⟩;congr 1;unfold nQ;rw [Bool.eq_iff_iff];simp only [beq_iff_eq,decide_eq_true_eq,true_and];rw [←Br];omega
open Go Go.RX Go.Proofs Go.Ae Go.RX.Sh Go.RX.Fe Go.RX.Fg Go.RX.Fh Go.Gh Go.Gc
theorem xn(k:IntKind)(a b:Nat):ak .rem k (a:Int) (b:Int)=((a%b:Nat):Int):=rfl
theorem JI(n:Nat):ak .rem .i64 (16 - ak .rem .i64 (n:Int) 16) 16=((gi n:Nat):Int):=by
 have h:ak .rem .i64 (n:Int) 16=((n%16:Nat):Int):=rfl;rw [h,show(16:Int) - ((n%16:Nat):Int)=((16 - n%16:Nat):Int) by omega];rfl
theorem OL(n s:Nat)(hs:s≤64):ae .u8 (ak .shr .u64 (ak .shl .u64 (ae .u64 (n:Int)) 3) (s:Int))=((n*8%2^64/2^s%256:Nat):Int):=by
 have h:ak .shl .u64 (ae .u64 (n:Int)) 3=((n*8%2^64:Nat):Int):=by
  rw [wrap_u64];have:=tJ (n%2^64) 3 (by decide);rw [show((3:Nat):Int)=3 from rfl]at this;rw [this];congr 1;omega
 rw [h,fJ .u64 _ s (by exact hs),wrap_u8,Nat.shiftRight_eq_div_pow]
theorem Lw(n1 n2:Nat)(j:Nat)(hj:j<16):(au (au (au (au (au (au (au (au (au (au (au (au (au (au (au (au (fun _=>0) 0 (ae .u8 (ak .shr .u64 (ak .shl .u64 (ae .u64 (n1:Int)) 3) 56))) 1 (ae .u8 (ak .shr .u64 (ak .shl .u64 (ae .u64 (n1:Int)) 3) 48))) 2 (ae .u8 (ak .shr .u64 (ak .shl .u64 (ae .u64 (n1:Int)) 3) 40))) 3 (ae .u8 (ak .shr .u64 (ak .shl .u64 (ae .u64 (n1:Int)) 3) 32))) 4 (ae .u8 (ak .shr .u64 (ak .shl .u64 (ae .u64 (n1:Int)) 3) 24))) 5 (ae .u8 (ak .shr .u64 (ak .shl .u64 (ae .u64 (n1:Int)) 3) 16))) 6 (ae .u8 (ak .shr .u64 (ak .shl .u64 (ae .u64 (n1:Int)) 3) 8))) 7 (ae .u8 (ak .shr .u64 (ak .shl .u64 (ae .u64 (n1:Int)) 3) 0))) 8 (ae .u8 (ak .shr .u64 (ak .shl .u64 (ae .u64 (n2:Int)) 3) 56))) 9 (ae .u8 (ak .shr .u64 (ak .shl .u64 (ae .u64 (n2:Int)) 3) 48))) 10 (ae .u8 (ak .shr .u64 (ak .shl .u64 (ae .u64 (n2:Int)) 3) 40))) 11 (ae .u8 (ak .shr .u64 (ak .shl .u64 (ae .u64 (n2:Int)) 3) 32))) 12 (ae .u8 (ak .shr .u64 (ak .shl .u64 (ae .u64 (n2:Int)) 3) 24))) 13 (ae .u8 (ak .shr .u64 (ak .shl .u64 (ae .u64 (n2:Int)) 3) 16))) 14 (ae .u8 (ak .shr .u64 (ak .shl .u64 (ae .u64 (n2:Int)) 3) 8))) 15 (ae .u8 (ak .shr .u64 (ak .shl .u64 (ae .u64 (n2:Int)) 3) 0))) j=((RV n1 n2 j:Nat):Int):=by
 have e:=fun(n s:Nat) (hs:s≤64)=>OL n s hs
 match j,hj with
 | 0,_=>exact e n1 56 (by decide)
 | 1,_=>exact e n1 48 (by decide)
 | 2,_=>exact e n1 40 (by decide)
 | 3,_=>exact e n1 32 (by decide)
 | 4,_=>exact e n1 24 (by decide)
 | 5,_=>exact e n1 16 (by decide)
 | 6,_=>exact e n1 8 (by decide)
 | 7,_=>exact e n1 0 (by decide)
 | 8,_=>exact e n2 56 (by decide)
 | 9,_=>exact e n2 48 (by decide)
 | 10,_=>exact e n2 40 (by decide)
 | 11,_=>exact e n2 32 (by decide)
 | 12,_=>exact e n2 24 (by decide)
 | 13,_=>exact e n2 16 (by decide)
 | 14,_=>exact e n2 8 (by decide)
 | 15,_=>exact e n2 0 (by decide)
 | j+16,h=>exact absurd h (by omega)
def Vp(b:Nat)(v:V1)(n:Nat)(K N:Nat→Nat)(n1:Nat)(A:Nat→Nat)(n2:Nat)(T:Nat→Nat)(x:Value)(hs:List HP):Prop:=
 ∃o:V1,x=o.v∧hs=[dp b v,ib v n K,aq true o 16 (lv n K N n1 A n2 T)]
set_option maxHeartbeats 1000000 in
theorem Lx(b:Nat)(v v1 v2:V1)(n:Nat)(hn:0<n)(Lm:n<100)(K N A T:Nat→Nat)(hK: ∀j,K j<256)(hN: ∀j,N j<256)(hA: ∀j,A j<256)(hT: ∀j,T j<256)(n1 n2:Nat)(hl:n1+n2+64≤140737488355328):
  ax aiT 89 [.pointer (some ⟨b,0,none⟩),eW N,v1.v,v2.v] [dp b v,ib v n K,aq false v1 n1 A,aq false v2 n2 T] (Vp b v n K N n1 A n2 T):=by
 refine Vl (Vp b v n K N n1 A n2 T) (Int.ofNat (4*(n+7))) (n1:Int) (n2:Int) (fun j=>(sb j:Nat)) (cw n K) (fun j=>(N j:Nat)) (fun j=>(A j:Nat)) (fun j=>(T j:Nat)) v v1 v2 b ?_;unfold OI;generalize hx:Int.ofNat (4*(n+7))=x0;rw [JI n1,JI n2];have hp1:=JF n1;have hp2:=JF n2;have hr1:ak .rem .i64 (n1:Int) 16=((n1%16:Nat):Int):=rfl;have hr2:ak .rem .i64 (n2:Int) 16=((n2%16:Nat):Int):=rfl;rw [hr1,hr2];intro b1 b2
 repeat (first | (intro _) | (refine⟨by omega,fun _=>?_⟩))
 have hz: ∀j:Nat,(fun _:Nat=>0) j<256:=fun _=>(by show 0<256;decide)
 refine⟨EP n K (fun _=>0) b v,?_,?_⟩
 ·rw [dZ (A:=fun _=>0) (B:=fun _=>0) fun _ _=>rfl,←hx];exact za b v n hn Lm K _ hK hz
 rintro x hs ⟨rfl,rfl⟩;refine⟨fun j=>(enc n K (fun _=>0) j:Nat),by rw [ajp,List.append_nil],by rw [←hx];rfl,?_⟩
 repeat (first | (intro _) | (refine⟨by omega,fun _=>?_⟩))
 have hE:=CB n K (fun _=>0) hK hz;rename_i wU;refine⟨fun x hs=>x=bY (qc (enc n K fun _=>0) (JG n1 A n2 T) (Vo n1 n2))∧hs=[],?_,?_⟩
 ·have hm:=HB wU (enc n K fun _=>0) (JG n1 A n2 T) hE (Vn hA hT) (Vo n1 n2);have e:aq true wU (Vo n1 n2) (JG n1 A n2 T)=aG true 5 1 wU.v (ag ((((n1:Int)+(gi n1:Nat))+n2)+(gi n2:Nat)+16)) (aW (ag ((((n1:Int)+(gi n1:Nat))+n2)+(gi n2:Nat)+16)) [bd .u8 1 fun j=>(JG n1 A n2 T j:Nat)]):=by
   unfold aq Vo;rw [show ag ((((n1:Int)+(gi n1:Nat))+n2)+(gi n2:Nat)+16)=n1+gi n1+n2+gi n2+16 by omega]
  rw [dZ (B:=enc n K fun _=>0) fun _ _=>rfl];rw [e]at hm;dsimp only [bo,bi,bn];rw [bJ (g:=fun j=>(JG n1 A n2 T j:Nat))]
  ·exact hm
  ·intro j hj;have q1:ag (n1:Int)=n1:=rfl;have q2:ag (n2:Int)=n2:=rfl;have q3:ag ((gi n1:Nat):Int)=gi n1:=rfl;have q4:ag ((gi n2:Nat):Int)=gi n2:=rfl;have q5:ag ((n1:Int)+(gi n1:Nat))=n1+gi n1:=by omega
   have q6:ag ((n1:Int)+(gi n1:Nat)+n2)=n1+gi n1+n2:=by omega
   have q7:ag ((n1:Int)+(gi n1:Nat)+n2+(gi n2:Nat))=n1+gi n1+n2+gi n2:=by omega
   rw [q1,q2,q3,q4,q5,q6,q7];have lH:j<n1+gi n1+n2+gi n2+16:=by omega
   unfold ay JG;by_cases c1:j<n1
   ·rw [if_neg (by omega),if_neg (by omega),if_neg (by omega),if_neg (by omega),if_pos c1]
   rw [if_neg c1];by_cases c2:j<n1+gi n1
   ·rw [if_neg (by omega),if_neg (by omega),if_neg (by omega),if_pos (by omega),if_pos c2];rfl
   rw [if_neg c2];by_cases c3:j<n1+gi n1+n2
   ·rw [if_neg (by omega),if_neg (by omega),if_pos (by omega),if_pos c3]
   rw [if_neg c3];by_cases c4:j<n1+gi n1+n2+gi n2
   ·rw [if_neg (by omega),if_pos (by omega),if_pos c4];rfl
   ·rw [if_pos (by omega),if_neg c4];exact Lw n1 n2 _ (by omega)
 rintro x hs ⟨rfl,rfl⟩;have hH:=EV (enc n K fun _=>0) (JG n1 A n2 T) (Vo n1 n2);generalize hh:qc (enc n K fun _=>0) (JG n1 A n2 T) (Vo n1 n2)=H at hH ⊢;refine⟨fun j=>(H j:Nat),by unfold bY;rw [ajp,List.append_nil],rfl,?_⟩;intro Dd;have hC:=jy hN (c:=1) (by decide);have hB:ar [al Dd true (aiL (aj .u8 16 fun j=>(H j:Nat)) [])] (aH (.slice (some ⟨Dd,0,none⟩) 16 16) 16 H):=by
  rw [ajp,List.append_nil];exact ar.block (fun _ _=>rfl) (Nat.le_refl _)
 have rH:=fun zT=>gM (B:=[al Dd true (aiL (aj .u8 16 fun j=>(H j:Nat)) [])]) (x:= .slice (some ⟨Dd,0,none⟩) 16 16) rfl b zT v n hn Lm K (eP N 1) H hK hC hH 16 (by decide) hB
 have fin: ∀o:V1,Vp b v n K N n1 A n2 T o.v [dp b v,ib v n K,aq true o 16 (eZ n K (eP N 1) H)]:=fun o=>⟨o,rfl,by rw [←hh];rfl⟩
 constructor
 ·refine⟨_,fx N,?_⟩;rintro x hs ⟨rfl,rfl⟩;refine⟨fun j=>(eP N 1 j:Nat),by unfold bY;rw [ajp,List.append_nil],rfl,?_⟩;intro zT;refine⟨_,by rw [dZ (B:=eP N 1) fun _ _=>rfl,←hx];exact rH zT,?_⟩;rintro x hs ⟨o,rfl,rfl⟩;exact⟨o,fun j=>(eZ n K (eP N 1) H j:Nat),rfl,by rw [←hx];rfl,by rw [←hx];exact fin o⟩
 ·intro zT;refine⟨_,fx N,?_⟩;rintro x hs ⟨rfl,rfl⟩;refine⟨fun j=>(eP N 1 j:Nat),by unfold bY;rw [ajp,List.append_nil],rfl,?_⟩;refine⟨_,by rw [dZ (B:=eP N 1) fun _ _=>rfl,←hx];exact rH zT,?_⟩;rintro x hs ⟨o,rfl,rfl⟩;exact⟨o,fun j=>(eZ n K (eP N 1) H j:Nat),rfl,by rw [←hx];rfl,by rw [←hx];exact fin o⟩
open Go Go.RX Go.Proofs Go.Ae Go.RX.Sh Go.RX.Fe Go.RX.Fg Go.RX.Fh Go.Gh Go.Gc
theorem qP{B:List HP}{x1 x2:Value}(h1:x1.oneCell'=true)(h2:x2.oneCell'=true)(b:Nat)(v:V1)(n:Nat)(hn:0<n)(Lm:n<100)(K N A T:Nat→Nat)(hK: ∀j,K j<256)(hN: ∀j,N j<256)(hA: ∀j,A j<256)(hT: ∀j,T j<256)(n1 n2:Nat)(hl:n1+n2+64≤140737488355328)
  (Ca:ar B (aH x1 n1 A)) (AU:ar B (aH x2 n2 T)):
  ax aiT 89 [.pointer (some ⟨b,0,none⟩),eW N,x1,x2] ([dp b v,ib v n K]++B) fun r hs=> ∃o:V1,r=o.v∧hs=[dp b v,ib v n K]++B++[aq true o 16 (lv n K N n1 A n2 T)]:=by
 have h:ax aiT 89 [.pointer (some ⟨b,0,none⟩),eW N,x1,x2] ([dp b v,ib v n K]++[aH x1 n1 A,aH x2 n2 T]) fun r hs=> ∃nw,(∃o:V1,r=o.v∧nw=[aq true o 16 (lv n K N n1 A n2 T)])∧hs=[dp b v,ib v n K]++nw:=by
  refine ax.post (Lx b v ⟨x1,h1⟩ ⟨x2,h2⟩ n hn Lm K N A T hK hN hA hT n1 n2 hl) ?_;rintro r hs ⟨o,hr,rfl⟩;exact⟨_,bL.refl _,_,⟨o,hr,rfl⟩,rfl⟩
 refine ax.post (ax.kX h ?_ ?_ ?_) ?_
 ·intro h hh;simp only [ai0,aiZ,or_false]at hh;rcases hh with rfl | rfl<;>rfl
 ·rintro v nw ⟨o,_,rfl⟩ h hh;simp only [ai0,aiZ,or_false]at hh;subst hh;rfl
 ·intro h hh;simp only [ai0,aiZ,or_false]at hh;rcases hh with rfl | rfl
  ·exact Ca
  ·exact AU
 ·rintro r hs ⟨nw,⟨o,hr,rfl⟩,rfl⟩;exact⟨_,bL.refl _,o,hr,rfl⟩
theorem oM{B:List HP}{x1 x2:Value}(h1:x1.oneCell'=true)(h2:x2.oneCell'=true)(n m:Nat)(S T:Nat→Nat)(hA: ∀j,S j<256)(hB: ∀j,T j<256)(hn:n≤140737488355328)(Ca:ar B (aH x1 n S))(AU:ar B (aH x2 m T)):
  ax aiT 68 [x1,x2] B fun r hs=>r= .bool (nQ n m S T)∧hs=B:=by
 have h:ax aiT 68 [x1,x2] ([]++[aH x1 n S,aH x2 m T]) fun r hs=> ∃nw,(r= .bool (nQ n m S T)∧nw=[])∧hs=[]++nw:=by
  refine ax.post (HC ⟨x1,h1⟩ ⟨x2,h2⟩ n m S T hA hB hn) ?_;rintro r hs ⟨hr,rfl⟩;exact⟨[],bL.refl _,[],⟨hr,rfl⟩,rfl⟩
 refine ax.post (ax.kX h (by simp) ?_ ?_) ?_
 ·rintro v nw ⟨_,rfl⟩ h hh;simp at hh
 ·intro h hh;simp only [ai0,aiZ,or_false]at hh;rcases hh with rfl | rfl
  ·exact Ca
  ·exact AU
 ·rintro r hs ⟨nw,⟨hr,rfl⟩,rfl⟩;exact⟨B,by simpa using bL.refl B,hr,rfl⟩
def opens(n:Nat)(K N:Nat→Nat)(n1:Nat)(A:Nat→Nat)(m:Nat)(T:Nat→Nat):Prop:=16≤m∧∀j,j<16→lv n K N n1 A (m - 16) T j=T (m - 16+j)
def qd(n:Nat)(K N:Nat→Nat)(n1:Nat)(A:Nat→Nat)(m:Nat)(T:Nat→Nat)(r:Value)(nw:List HP):Prop:=
 (opens n K N n1 A m T∧∃o:V1,r= .tuple #[o.v,.int .i64 0]∧nw=[aq true o (m - 16) (d_ n K N T)])∨(¬opens n K N n1 A m T∧r= .tuple #[.slice none 0 0,.int .i64 140]∧nw=[])
set_option maxHeartbeats 1000000 in
theorem Ar(v0 v1 v2:V1)(K N A T:Nat→Nat)(hK: ∀j,K j<256)(hN: ∀j,N j<256)(hA: ∀j,A j<256)(hT: ∀j,T j<256)(n1 n2:Nat)(hl:n1+n2+100≤140737488355328):
  ax aiT 56 [v0.v,eW N,v1.v,v2.v] [aq false v0 16 K,aq false v1 n1 A,aq false v2 n2 T] fun r hs=> ∃o:V1,r= .tuple #[o.v,.int .i64 0]∧hs=[aq true o (n2+16) (jO 4 K N n1 A n2 T)]:=by
 refine ax.post (p:=fun r hs=> ∃(o:V1) (h2:HP),r= .tuple #[o.v,.int .i64 0]∧hs=[aq true o (n2+16) (jO 4 K N n1 A n2 T),h2]) ?_ ?_;rotate_left
 ·rintro r hs ⟨o,h2,hr,rfl⟩;exact⟨_,bL.sub (by repeat (first | exact List.Sublist.slnil | apply List.Sublist.cons_cons | apply List.Sublist.cons)),o,hr,rfl⟩
 refine Ls _ (n1:Int) (n2:Int) (fun j=>(K j:Nat)) (fun j=>(N j:Nat)) (fun j=>(A j:Nat)) (fun j=>(T j:Nat)) v0 v1 v2 ?_;unfold Bn;intro b0;refine⟨_,qa v0 K hK,?_⟩;rintro x hs ⟨b1,v3,rfl,rfl⟩;refine⟨b1,v3,fun j=>(sb j:Nat),cw 4 K,rfl,rfl,?_⟩;refine⟨_,fx N,?_⟩;rintro x hs ⟨rfl,rfl⟩;refine⟨fun j=>(eP N 1 j:Nat),by unfold bY;rw [ajp,List.append_nil],rfl,?_⟩;have hC:=jy hN (c:=1) (by decide);refine⟨_,by rw [dZ (B:=eP N 1) fun _ _=>rfl];exact fK _ hC,?_⟩;rintro x hs ⟨rfl,rfl⟩;refine⟨fun j=>(nx (eP N 1) j:Nat),by unfold bY;rw [ajp,List.append_nil],rfl,?_⟩;have hX:=Bl _ hC;intro b2;refine⟨_,by rw [dZ (B:=nx (eP N 1)) fun _ _=>rfl];exact gM (B:=[aq false v2 n2 T]) v2.one b1 b2 v3 4 (by decide) (by decide) K (nx (eP N 1)) T hK hX hT n2 (by omega) ar.view,?_⟩;rintro x hs ⟨v4,rfl,rfl⟩;refine⟨v4,fun j=>(d_ 4 K N T j:Nat),rfl,rfl,?_⟩;have hY:=tL (n:=4) hK hN hT;refine⟨_,qP (B:=[aq false v1 n1 A,aq true v4 n2 (d_ 4 K N T)]) v1.one v4.one b1 v3 4 (by decide) (by decide) K N A (d_ 4 K N T) hK hN hA hY n1 n2 (by omega) (ar.left (C:=[aq true v4 n2 (d_ 4 K N T)]) ar.view) (ar.right (A:=[aq false v1 n1 A]) ar.bytes),?_⟩;rintro x hs ⟨v5,rfl,rfl⟩;refine⟨v5,fun j=>(lv 4 K N n1 A n2 (d_ 4 K N T) j:Nat),rfl,rfl,?_⟩;refine⟨by omega,fun _=>⟨by omega,fun _=>?_⟩⟩;intro v6;refine⟨v6,aq true v5 16 (lv 4 K N n1 A n2 (d_ 4 K N T)),rfl,?_⟩;congr 1;unfold aq;dsimp only [bo,bi,bn];rw [show ag ((n2:Int)+16)=n2+16 by omega,aiX];congr 1;refine bJ fun j hj=>?_
 unfold ay jO;by_cases c:j<n2
 ·rw [if_neg (by omega),if_pos c]
 ·rw [if_pos (by omega),if_neg c]
theorem As{B:List HP}{x0 x1 x2:Value}(h0:x0.oneCell'=true)(h1:x1.oneCell'=true)(h2:x2.oneCell'=true)(K N A T:Nat→Nat)(hK: ∀j,K j<256)(hN: ∀j,N j<256)(hA: ∀j,A j<256)(hT: ∀j,T j<256)(n1 n2:Nat)(hl:n1+n2+100≤140737488355328)
  (EX:ar B (aH x0 16 K)) (Ca:ar B (aH x1 n1 A)) (AU:ar B (aH x2 n2 T)):
  ax aiT 56 [x0,eW N,x1,x2] B fun r hs=> ∃o:V1,r= .tuple #[o.v,.int .i64 0]∧hs=B++[aq true o (n2+16) (jO 4 K N n1 A n2 T)]:=by
 have h:ax aiT 56 [x0,eW N,x1,x2] ([]++[aH x0 16 K,aH x1 n1 A,aH x2 n2 T]) fun r hs=> ∃nw,(∃o:V1,r= .tuple #[o.v,.int .i64 0]∧nw=[aq true o (n2+16) (jO 4 K N n1 A n2 T)])∧hs=[]++nw:=by
  refine ax.post (Ar ⟨x0,h0⟩ ⟨x1,h1⟩ ⟨x2,h2⟩ K N A T hK hN hA hT n1 n2 hl) ?_;rintro r hs ⟨o,hr,rfl⟩;exact⟨_,bL.refl _,_,⟨o,hr,rfl⟩,rfl⟩
 refine ax.post (ax.kX h (by simp) ?_ ?_) ?_
 ·rintro v nw ⟨o,_,rfl⟩ h hh;simp only [ai0,aiZ,or_false]at hh;subst hh;rfl
 ·intro h hh;simp only [ai0,aiZ,or_false]at hh;rcases hh with rfl | rfl | rfl
  ·exact EX
  ·exact Ca
  ·exact AU
 ·rintro r hs ⟨nw,⟨o,hr,rfl⟩,rfl⟩;exact⟨_,bL.refl _,o,hr,rfl⟩
set_option maxHeartbeats 2000000 in
theorem Au(v0 v1 v2:V1)(K N A T:Nat→Nat)(hK: ∀j,K j<256)(hN: ∀j,N j<256)(hA: ∀j,A j<256)(hT: ∀j,T j<256)(n1 m:Nat)(hl:n1+m+100≤140737488355328):
  ax aiT 59 [v0.v,eW N,v1.v,v2.v] [aq false v0 16 K,aq false v1 n1 A,aq false v2 m T] (qd 4 K N n1 A m T):=by
 refine ax.post (p:=fun r hs=> ∃nf,bL hs nf∧qd 4 K N n1 A m T r nf) ?_ fun v hs h=>h
 refine Lu _ (n1:Int) (m:Int) (fun j=>(K j:Nat)) (fun j=>(N j:Nat)) (fun j=>(A j:Nat)) (fun j=>(T j:Nat)) v0 v1 v2 ?_;unfold Bp;intro b0;refine⟨_,qa v0 K hK,?_⟩;rintro x hs ⟨b1,v3,rfl,rfl⟩;refine⟨b1,v3,fun j=>(sb j:Nat),cw 4 K,rfl,rfl,?_⟩;have hC:=jy hN (c:=1) (by decide);have hX:=Bl _ hC
 iterate 7 refine⟨by omega,fun _=>?_⟩
 refine⟨fun jI=>?_,fun bX=>?_⟩
 ·have hm:16≤m:=by omega
  have t1:ag ((m:Int) - 16)=m - 16:=by omega
  have t2:ag (m:Int)=m:=rfl;dsimp only [bo,bi,bn];rw [t1,t2];have AR:ar [aq false v2 m T] (aH (aC 1 v2.v 0 (m - 16) none) (m - 16) T):=by
   have:=ar.part (lo:=0) (hi:=m - 16) (mx:=none) (ar.view (v:=v2) (n:=m) (T:=T)) (by omega) (by omega) (by simp);rw [Nat.sub_zero]at this;rw [oK (T':=fun j=>T (0+j)) fun j _=>by rw [Nat.zero_add]];exact this
  have hve:ar [aq false v2 m T] (aH (aC 1 v2.v (m - 16) m none) 16 fun j=>T (m - 16+j)):=by
   have:=ar.part (lo:=m - 16) (hi:=m) (mx:=none) (ar.view (v:=v2) (n:=m) (T:=T)) (by omega) (by omega) (by simp);rw [show m - (m - 16)=16 by omega]at this;exact this
  refine⟨_,qP (B:=[aq false v1 n1 A,aq false v2 m T]) v1.one (aX ..) b1 v3 4 (by decide) (by decide) K N A T hK hN hA hT n1 (m - 16) (by omega) (ar.left (C:=[aq false v2 m T]) ar.view) (ar.right (A:=[aq false v1 n1 A]) AR),?_⟩;rintro x hs ⟨v4,rfl,rfl⟩;refine⟨v4,fun j=>(lv 4 K N n1 A (m - 16) T j:Nat),rfl,rfl,?_⟩;have hG:=CJ hK hN n1 A (m - 16) T (n:=4);rw [if_pos (show(!decide ((m:Int) - 16<0))=true by rw [decide_eq_false (by omega)];rfl)];refine⟨_,oM (B:=[aq true v4 16 (lv 4 K N n1 A (m - 16) T),aq false v2 m T]) v4.one (aX ..) 16 16 (lv 4 K N n1 A (m - 16) T) (fun j=>T (m - 16+j)) hG (fun j=>hT _) (by decide) (ar.left (C:=[aq false v2 m T]) ar.bytes) (ar.right (A:=[aq true v4 16 (lv 4 K N n1 A (m - 16) T)]) hve),?_⟩;rintro x hs ⟨rfl,rfl⟩;refine⟨_,rfl,rfl,?_⟩;have nM:nQ 16 16 (lv 4 K N n1 A (m - 16) T) (fun j=>T (m - 16+j))=true↔opens 4 K N n1 A m T:=by
   unfold nQ opens;simp [hm]
  refine⟨fun dI=>?_,fun heq=>?_⟩
  ·exact⟨[],bL.sub (List.nil_sublist _),.inr ⟨fun h=>dI (nM.2 h),rfl,rfl⟩⟩
  ·have Bc:opens 4 K N n1 A m T:=nM.1 (by simpa using heq);refine⟨by omega,fun _=>⟨by omega,fun _=>?_⟩⟩;have fin: ∀o:V1,∃nf,bL [aq true o (m - 16) (d_ 4 K N T)] nf∧qd 4 K N n1 A m T (.tuple #[o.v,.int .i64 0]) nf:=fun o=>⟨_,bL.refl _,.inl ⟨Bc,o,rfl,rfl⟩⟩
   have rH:=fun b2=>gM (B:=[aq false v2 m T]) (x:=aC 1 v2.v 0 (m - 16) none) (aX ..) b1 b2 v3 4 (by decide) (by decide) K (nx (eP N 1)) T hK hX hT (m - 16) (by omega) AR
   have uf: ∀{C:Nat→Nat},Value.agg (aiL (aj .u8 16 fun j=>(C j:Nat)) []).toArray=bY C:=dZ fun _ _=>rfl
   refine⟨⟨_,fx N,?_⟩,?_⟩
   ·rintro x hs ⟨rfl,rfl⟩;refine⟨fun j=>(eP N 1 j:Nat),uf.symm,rfl,⟨_,by rw [uf];exact fK _ hC,?_⟩,fun b2=>⟨_,by rw [uf];exact fK _ hC,?_⟩⟩
    ·rintro x hs ⟨rfl,rfl⟩;refine⟨fun j=>(nx (eP N 1) j:Nat),uf.symm,rfl,fun b2=>⟨_,by rw [uf];exact rH b2,?_⟩⟩;rintro x hs ⟨o,rfl,rfl⟩;exact⟨o,fun j=>(d_ 4 K N T j:Nat),rfl,rfl,fin o⟩
    ·rintro x hs ⟨rfl,rfl⟩;refine⟨fun j=>(nx (eP N 1) j:Nat),uf.symm,rfl,⟨_,by rw [uf];exact rH b2,?_⟩⟩;rintro x hs ⟨o,rfl,rfl⟩;exact⟨o,fun j=>(d_ 4 K N T j:Nat),rfl,rfl,fin o⟩
   ·intro b2;refine⟨_,fx N,?_⟩;rintro x hs ⟨rfl,rfl⟩;refine⟨fun j=>(eP N 1 j:Nat),uf.symm,rfl,⟨_,by rw [uf];exact fK _ hC,?_⟩⟩;rintro x hs ⟨rfl,rfl⟩;refine⟨fun j=>(nx (eP N 1) j:Nat),uf.symm,rfl,⟨_,by rw [uf];exact rH b2,?_⟩⟩;rintro x hs ⟨o,rfl,rfl⟩;exact⟨o,fun j=>(d_ 4 K N T j:Nat),rfl,rfl,fin o⟩
 ·exact⟨[],bL.sub (List.nil_sublist _),.inr ⟨fun h=>absurd h.1 (by omega),rfl,rfl⟩⟩
theorem Av{B:List HP}{x0 x1 x2:Value}(h0:x0.oneCell'=true)(h1:x1.oneCell'=true)(h2:x2.oneCell'=true)(K N A T:Nat→Nat)(hK: ∀j,K j<256)(hN: ∀j,N j<256)(hA: ∀j,A j<256)(hT: ∀j,T j<256)(n1 m:Nat)(hl:n1+m+100≤140737488355328)
  (EX:ar B (aH x0 16 K)) (Ca:ar B (aH x1 n1 A)) (AU:ar B (aH x2 m T)):
  ax aiT 59 [x0,eW N,x1,x2] B fun r hs=> ∃nw,qd 4 K N n1 A m T r nw∧hs=B++nw:=by
 have h:ax aiT 59 [x0,eW N,x1,x2] ([]++[aH x0 16 K,aH x1 n1 A,aH x2 m T]) fun r hs=> ∃nw,qd 4 K N n1 A m T r nw∧hs=[]++nw:=by
  refine ax.post (Au ⟨x0,h0⟩ ⟨x1,h1⟩ ⟨x2,h2⟩ K N A T hK hN hA hT n1 m hl) ?_;intro r hs hq;exact⟨_,bL.refl _,hs,hq,rfl⟩
 refine ax.post (ax.kX h (by simp) ?_ ?_) ?_
 ·rintro v nw (⟨_,o,_,rfl⟩ | ⟨_,_,rfl⟩) h hh
  ·simp only [ai0,aiZ,or_false]at hh;subst hh;rfl
  ·simp at hh
 ·intro h hh;simp only [ai0,aiZ,or_false]at hh;rcases hh with rfl | rfl | rfl
  ·exact EX
  ·exact Ca
  ·exact AU
 ·rintro r hs ⟨nw,hq,rfl⟩;exact⟨_,bL.refl _,nw,hq,rfl⟩
set_option maxHeartbeats 1000000 in
theorem Aw(v0 v1 v2:V1)(K N A T:Nat→Nat)(hK: ∀j,K j<256)(hN: ∀j,N j<256)(hA: ∀j,A j<256)(hT: ∀j,T j<256)(n1 n2:Nat)(hl:n1+n2+100≤140737488355328):
  ax aiT 56 [v0.v,eW N,v1.v,v2.v] [aq false v0 32 K,aq false v1 n1 A,aq false v2 n2 T] fun r hs=> ∃o:V1,r= .tuple #[o.v,.int .i64 0]∧hs=[aq true o (n2+16) (jO 8 K N n1 A n2 T)]:=by
 refine ax.post (p:=fun r hs=> ∃(o:V1) (h2:HP),r= .tuple #[o.v,.int .i64 0]∧hs=[aq true o (n2+16) (jO 8 K N n1 A n2 T),h2]) ?_ ?_;rotate_left
 ·rintro r hs ⟨o,h2,hr,rfl⟩;exact⟨_,bL.sub (by repeat (first | exact List.Sublist.slnil | apply List.Sublist.cons_cons | apply List.Sublist.cons)),o,hr,rfl⟩
 refine Lt _ (n1:Int) (n2:Int) (fun j=>(K j:Nat)) (fun j=>(N j:Nat)) (fun j=>(A j:Nat)) (fun j=>(T j:Nat)) v0 v1 v2 ?_;unfold Bo;intro b0;refine⟨_,vW v0 K hK,?_⟩;rintro x hs ⟨b1,v3,rfl,rfl⟩;refine⟨b1,v3,fun j=>(sb j:Nat),cw 8 K,rfl,rfl,?_⟩;refine⟨_,fx N,?_⟩;rintro x hs ⟨rfl,rfl⟩;refine⟨fun j=>(eP N 1 j:Nat),by unfold bY;rw [ajp,List.append_nil],rfl,?_⟩;have hC:=jy hN (c:=1) (by decide);refine⟨_,by rw [dZ (B:=eP N 1) fun _ _=>rfl];exact fK _ hC,?_⟩;rintro x hs ⟨rfl,rfl⟩;refine⟨fun j=>(nx (eP N 1) j:Nat),by unfold bY;rw [ajp,List.append_nil],rfl,?_⟩;have hX:=Bl _ hC;intro b2;refine⟨_,by rw [dZ (B:=nx (eP N 1)) fun _ _=>rfl];exact gM (B:=[aq false v2 n2 T]) v2.one b1 b2 v3 8 (by decide) (by decide) K (nx (eP N 1)) T hK hX hT n2 (by omega) ar.view,?_⟩;rintro x hs ⟨v4,rfl,rfl⟩;refine⟨v4,fun j=>(d_ 8 K N T j:Nat),rfl,rfl,?_⟩;have hY:=tL (n:=8) hK hN hT;refine⟨_,qP (B:=[aq false v1 n1 A,aq true v4 n2 (d_ 8 K N T)]) v1.one v4.one b1 v3 8 (by decide) (by decide) K N A (d_ 8 K N T) hK hN hA hY n1 n2 (by omega) (ar.left (C:=[aq true v4 n2 (d_ 8 K N T)]) ar.view) (ar.right (A:=[aq false v1 n1 A]) ar.bytes),?_⟩;rintro x hs ⟨v5,rfl,rfl⟩;refine⟨v5,fun j=>(lv 8 K N n1 A n2 (d_ 8 K N T) j:Nat),rfl,rfl,?_⟩;refine⟨by omega,fun _=>⟨by omega,fun _=>?_⟩⟩;intro v6;refine⟨v6,aq true v5 16 (lv 8 K N n1 A n2 (d_ 8 K N T)),rfl,?_⟩;congr 1;unfold aq;dsimp only [bo,bi,bn];rw [show ag ((n2:Int)+16)=n2+16 by omega,aiX];congr 1;refine bJ fun j hj=>?_
 unfold ay jO;by_cases c:j<n2
 ·rw [if_neg (by omega),if_pos c]
 ·rw [if_pos (by omega),if_neg c]
theorem Ax{B:List HP}{x0 x1 x2:Value}(h0:x0.oneCell'=true)(h1:x1.oneCell'=true)(h2:x2.oneCell'=true)(K N A T:Nat→Nat)(hK: ∀j,K j<256)(hN: ∀j,N j<256)(hA: ∀j,A j<256)(hT: ∀j,T j<256)(n1 n2:Nat)(hl:n1+n2+100≤140737488355328)
  (EX:ar B (aH x0 32 K)) (Ca:ar B (aH x1 n1 A)) (AU:ar B (aH x2 n2 T)):
  ax aiT 56 [x0,eW N,x1,x2] B fun r hs=> ∃o:V1,r= .tuple #[o.v,.int .i64 0]∧hs=B++[aq true o (n2+16) (jO 8 K N n1 A n2 T)]:=by
 have h:ax aiT 56 [x0,eW N,x1,x2] ([]++[aH x0 32 K,aH x1 n1 A,aH x2 n2 T]) fun r hs=> ∃nw,(∃o:V1,r= .tuple #[o.v,.int .i64 0]∧nw=[aq true o (n2+16) (jO 8 K N n1 A n2 T)])∧hs=[]++nw:=by
  refine ax.post (Aw ⟨x0,h0⟩ ⟨x1,h1⟩ ⟨x2,h2⟩ K N A T hK hN hA hT n1 n2 hl) ?_;rintro r hs ⟨o,hr,rfl⟩;exact⟨_,bL.refl _,_,⟨o,hr,rfl⟩,rfl⟩
 refine ax.post (ax.kX h (by simp) ?_ ?_) ?_
 ·rintro v nw ⟨o,_,rfl⟩ h hh;simp only [ai0,aiZ,or_false]at hh;subst hh;rfl
 ·intro h hh;simp only [ai0,aiZ,or_false]at hh;rcases hh with rfl | rfl | rfl
  ·exact EX
  ·exact Ca
  ·exact AU
 ·rintro r hs ⟨nw,⟨o,hr,rfl⟩,rfl⟩;exact⟨_,bL.refl _,o,hr,rfl⟩
set_option maxHeartbeats 2000000 in
theorem Ay(v0 v1 v2:V1)(K N A T:Nat→Nat)(hK: ∀j,K j<256)(hN: ∀j,N j<256)(hA: ∀j,A j<256)(hT: ∀j,T j<256)(n1 m:Nat)(hl:n1+m+100≤140737488355328):
  ax aiT 59 [v0.v,eW N,v1.v,v2.v] [aq false v0 32 K,aq false v1 n1 A,aq false v2 m T] (qd 8 K N n1 A m T):=by
 refine ax.post (p:=fun r hs=> ∃nf,bL hs nf∧qd 8 K N n1 A m T r nf) ?_ fun v hs h=>h
 refine Lv _ (n1:Int) (m:Int) (fun j=>(K j:Nat)) (fun j=>(N j:Nat)) (fun j=>(A j:Nat)) (fun j=>(T j:Nat)) v0 v1 v2 ?_;unfold Bq;intro b0;refine⟨_,vW v0 K hK,?_⟩;rintro x hs ⟨b1,v3,rfl,rfl⟩;refine⟨b1,v3,fun j=>(sb j:Nat),cw 8 K,rfl,rfl,?_⟩;have hC:=jy hN (c:=1) (by decide);have hX:=Bl _ hC
 iterate 7 refine⟨by omega,fun _=>?_⟩
 refine⟨fun jI=>?_,fun bX=>?_⟩
 ·have hm:16≤m:=by omega
  have t1:ag ((m:Int) - 16)=m - 16:=by omega
  have t2:ag (m:Int)=m:=rfl;dsimp only [bo,bi,bn];rw [t1,t2];have AR:ar [aq false v2 m T] (aH (aC 1 v2.v 0 (m - 16) none) (m - 16) T):=by
   have:=ar.part (lo:=0) (hi:=m - 16) (mx:=none) (ar.view (v:=v2) (n:=m) (T:=T)) (by omega) (by omega) (by simp);rw [Nat.sub_zero]at this;rw [oK (T':=fun j=>T (0+j)) fun j _=>by rw [Nat.zero_add]];exact this
  have hve:ar [aq false v2 m T] (aH (aC 1 v2.v (m - 16) m none) 16 fun j=>T (m - 16+j)):=by
   have:=ar.part (lo:=m - 16) (hi:=m) (mx:=none) (ar.view (v:=v2) (n:=m) (T:=T)) (by omega) (by omega) (by simp);rw [show m - (m - 16)=16 by omega]at this;exact this
  refine⟨_,qP (B:=[aq false v1 n1 A,aq false v2 m T]) v1.one (aX ..) b1 v3 8 (by decide) (by decide) K N A T hK hN hA hT n1 (m - 16) (by omega) (ar.left (C:=[aq false v2 m T]) ar.view) (ar.right (A:=[aq false v1 n1 A]) AR),?_⟩;rintro x hs ⟨v4,rfl,rfl⟩;refine⟨v4,fun j=>(lv 8 K N n1 A (m - 16) T j:Nat),rfl,rfl,?_⟩;have hG:=CJ hK hN n1 A (m - 16) T (n:=8);rw [if_pos (show(!decide ((m:Int) - 16<0))=true by rw [decide_eq_false (by omega)];rfl)];refine⟨_,oM (B:=[aq true v4 16 (lv 8 K N n1 A (m - 16) T),aq false v2 m T]) v4.one (aX ..) 16 16 (lv 8 K N n1 A (m - 16) T) (fun j=>T (m - 16+j)) hG (fun j=>hT _) (by decide) (ar.left (C:=[aq false v2 m T]) ar.bytes) (ar.right (A:=[aq true v4 16 (lv 8 K N n1 A (m - 16) T)]) hve),?_⟩;rintro x hs ⟨rfl,rfl⟩;refine⟨_,rfl,rfl,?_⟩;have nM:nQ 16 16 (lv 8 K N n1 A (m - 16) T) (fun j=>T (m - 16+j))=true↔opens 8 K N n1 A m T:=by
   unfold nQ opens;simp [hm]
  refine⟨fun dI=>?_,fun heq=>?_⟩
  ·exact⟨[],bL.sub (List.nil_sublist _),.inr ⟨fun h=>dI (nM.2 h),rfl,rfl⟩⟩
  ·have Bc:opens 8 K N n1 A m T:=nM.1 (by simpa using heq);refine⟨by omega,fun _=>⟨by omega,fun _=>?_⟩⟩;have fin: ∀o:V1,∃nf,bL [aq true o (m - 16) (d_ 8 K N T)] nf∧qd 8 K N n1 A m T (.tuple #[o.v,.int .i64 0]) nf:=fun o=>⟨_,bL.refl _,.inl ⟨Bc,o,rfl,rfl⟩⟩
   have rH:=fun b2=>gM (B:=[aq false v2 m T]) (x:=aC 1 v2.v 0 (m - 16) none) (aX ..) b1 b2 v3 8 (by decide) (by decide) K (nx (eP N 1)) T hK hX hT (m - 16) (by omega) AR
   have uf: ∀{C:Nat→Nat},Value.agg (aiL (aj .u8 16 fun j=>(C j:Nat)) []).toArray=bY C:=dZ fun _ _=>rfl
   refine⟨⟨_,fx N,?_⟩,?_⟩
   ·rintro x hs ⟨rfl,rfl⟩;refine⟨fun j=>(eP N 1 j:Nat),uf.symm,rfl,⟨_,by rw [uf];exact fK _ hC,?_⟩,fun b2=>⟨_,by rw [uf];exact fK _ hC,?_⟩⟩
    ·rintro x hs ⟨rfl,rfl⟩;refine⟨fun j=>(nx (eP N 1) j:Nat),uf.symm,rfl,fun b2=>⟨_,by rw [uf];exact rH b2,?_⟩⟩;rintro x hs ⟨o,rfl,rfl⟩;exact⟨o,fun j=>(d_ 8 K N T j:Nat),rfl,rfl,fin o⟩
    ·rintro x hs ⟨rfl,rfl⟩;refine⟨fun j=>(nx (eP N 1) j:Nat),uf.symm,rfl,⟨_,by rw [uf];exact rH b2,?_⟩⟩;rintro x hs ⟨o,rfl,rfl⟩;exact⟨o,fun j=>(d_ 8 K N T j:Nat),rfl,rfl,fin o⟩
   ·intro b2;refine⟨_,fx N,?_⟩;rintro x hs ⟨rfl,rfl⟩;refine⟨fun j=>(eP N 1 j:Nat),uf.symm,rfl,⟨_,by rw [uf];exact fK _ hC,?_⟩⟩;rintro x hs ⟨rfl,rfl⟩;refine⟨fun j=>(nx (eP N 1) j:Nat),uf.symm,rfl,⟨_,by rw [uf];exact rH b2,?_⟩⟩;rintro x hs ⟨o,rfl,rfl⟩;exact⟨o,fun j=>(d_ 8 K N T j:Nat),rfl,rfl,fin o⟩
 ·exact⟨[],bL.sub (List.nil_sublist _),.inr ⟨fun h=>absurd h.1 (by omega),rfl,rfl⟩⟩
theorem Az{B:List HP}{x0 x1 x2:Value}(h0:x0.oneCell'=true)(h1:x1.oneCell'=true)(h2:x2.oneCell'=true)(K N A T:Nat→Nat)(hK: ∀j,K j<256)(hN: ∀j,N j<256)(hA: ∀j,A j<256)(hT: ∀j,T j<256)(n1 m:Nat)(hl:n1+m+100≤140737488355328)
  (EX:ar B (aH x0 32 K)) (Ca:ar B (aH x1 n1 A)) (AU:ar B (aH x2 m T)):
  ax aiT 59 [x0,eW N,x1,x2] B fun r hs=> ∃nw,qd 8 K N n1 A m T r nw∧hs=B++nw:=by
 have h:ax aiT 59 [x0,eW N,x1,x2] ([]++[aH x0 32 K,aH x1 n1 A,aH x2 m T]) fun r hs=> ∃nw,qd 8 K N n1 A m T r nw∧hs=[]++nw:=by
  refine ax.post (Ay ⟨x0,h0⟩ ⟨x1,h1⟩ ⟨x2,h2⟩ K N A T hK hN hA hT n1 m hl) ?_;intro r hs hq;exact⟨_,bL.refl _,hs,hq,rfl⟩
 refine ax.post (ax.kX h (by simp) ?_ ?_) ?_
 ·rintro v nw (⟨_,o,_,rfl⟩ | ⟨_,_,rfl⟩) h hh
  ·simp only [ai0,aiZ,or_false]at hh;subst hh;rfl
  ·simp at hh
 ·intro h hh;simp only [ai0,aiZ,or_false]at hh;rcases hh with rfl | rfl | rfl
  ·exact EX
  ·exact Ca
  ·exact AU
 ·rintro r hs ⟨nw,hq,rfl⟩;exact⟨_,bL.refl _,nw,hq,rfl⟩
end Go.RX.Fi

namespace Go.RX.Fk
open Go Go.RX Go.Proofs Go.Ae Go.RX.Sh Go.RX.Fe Go.RX.Fg Go.RX.Fi Go.RX.Fj Go.Gh
theorem kE{f:Nat}{args:List Value}{L B:List HP}{n:Nat}{T:Nat→Nat}(hm:ax aiT f args L fun r hs=> ∃o:V1,r=o.v∧hs=[aq true o n T])(hL: ∀h∈L,ar B h):
  ax aiT f args B fun r hs=> ∃o:V1,r=o.v∧hs=B++[aq true o n T]:=by
 have h:ax aiT f args ([]++L) fun r hs=> ∃nw,(∃o:V1,r=o.v∧nw=[aq true o n T])∧hs=[]++nw:=by
  refine ax.post hm ?_;rintro r hs ⟨o,hr,rfl⟩;exact⟨_,bL.refl _,_,⟨o,hr,rfl⟩,rfl⟩
 refine ax.post (ax.kX h (by simp) ?_ hL) ?_
 ·rintro v nw ⟨o,_,rfl⟩ h hh;simp only [ai0,aiZ,or_false]at hh;subst hh;rfl
 ·rintro r hs ⟨nw,⟨o,hr,rfl⟩,rfl⟩;exact⟨_,bL.refl _,o,hr,rfl⟩
theorem kF{f:Nat}{args:List Value}{L B:List HP}{Q:Value→Prop}(hm:ax aiT f args L fun r hs=>Q r∧hs=[])(hL: ∀h∈L,ar B h):
  ax aiT f args B fun r hs=>Q r∧hs=B:=by
 have h:ax aiT f args ([]++L) fun r hs=> ∃nw,(Q r∧nw=[])∧hs=[]++nw:=by
  refine ax.post hm ?_;rintro r hs ⟨hr,rfl⟩;exact⟨[],bL.refl _,[],⟨hr,rfl⟩,rfl⟩
 refine ax.post (ax.kX h (by simp) ?_ hL) ?_
 ·rintro v nw ⟨_,rfl⟩ h hh;cases hh
 ·rintro r hs ⟨nw,⟨hr,rfl⟩,rfl⟩;exact⟨B,by simpa using bL.refl B,hr,rfl⟩
theorem iB{p:HP→Prop}{a:HP}(h:p a): ∀x∈[a],p x:=by simpa using h
theorem EY{p:HP→Prop}{a b:HP}(h:p a)(h2:p b): ∀x∈[a,b],p x:=by simpa using ⟨h,h2⟩
theorem OM{p:HP→Prop}{a b c:HP}(h:p a)(h2:p b)(h3:p c): ∀x∈[a,b,c],p x:=by simpa using ⟨h,h2,h3⟩
theorem YQ{p:HP→Prop}{a b c d:HP}(h:p a)(h2:p b)(h3:p c)(h4:p d): ∀x∈[a,b,c,d],p x:=by simpa using ⟨h,h2,h3,h4⟩
theorem qe{a:Nat}(h:a<2^64):ae .u64 (a:Int)=(a:Int):=by rw [wrap_u64,ajm h]
def fi(m j:Nat):Nat:=m/256^(7 - j)%256
theorem CL(m j:Nat):fi m j<256:=Nat.mod_lt _ (by decide)
theorem ar.get{B:List HP}{md:Bool}{v:V1}{n:Nat}{T:Nat→Nat}(i:Nat)(h:B[i]? =some (aq md v n T)):ar B (aH v.v n T):=by
 obtain⟨hl,he⟩:=aiN.1 h;have e:B=B.take i++[aq md v n T]++B.drop (i+1):=by
  rw [ajs,←he];simp
 rw [e];refine ar.mid ?_;cases md
 ·exact ar.view
 ·exact ar.bytes
end Go.RX.Fk
