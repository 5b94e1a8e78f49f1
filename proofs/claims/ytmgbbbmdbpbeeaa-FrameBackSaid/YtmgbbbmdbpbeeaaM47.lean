/- Sealed frames plainly. -/
import Derived.Test.YtmgbbbmdbpbeeaaM46
import Derived.OpenShut
import Derived.ProofKit
open Classical renaming not_not → adJ
open Go.IntKind renaming wrap → ae
open Go.Proofs.Try renaming prog → adE
open Int renaming natCast_add → adH
open List renaming append → ads, append_eq → adG, getElem?_eq_none → aef, mem_cons → adW, mem_of_getElem? → ad3, mem_range → adZ, not_mem_nil → adP
open Nat renaming eq_of_testBit_eq → aei
namespace Go.Se
open Go.Ae Go.Gh Go.Gc Go.Hd Go.RX.Sh Go.RX.Fk
def cn(p k:Nat)(T:Nat→Nat)(j:Nat):Nat:=if j=p then T j^^^2^k else T j
theorem Fc{T:Nat→Nat}(hT: ∀j,T j<256){p k:Nat}(hk:k<8)(j:Nat):cn p k T j<256:=by
 unfold cn;split
 ·exact Nat.xor_lt_two_pow (n:=8) (hT j) (Nat.pow_lt_pow_right (by decide) hk)
 ·exact hT j
theorem Qr(x k:Nat):x^^^2^k≠x:=by
 intro h;have:=congrArg (fun y=>Nat.testBit y k) h;simp only [Nat.testBit_xor,Nat.testBit_two_pow,decide_true]at this;cases h:x.testBit k<;>simp [h]at this
theorem Yo(i0:Nat)(KQ:i0<128)(q:Nat→Bool)(i:Nat)(hi:i<128):gm (e i0) q i=mA i0 q i:=by
 rw [CG _ _ i hi];have: ∀a,a<128→(e i0 a&&mA a q i)=(mA a q i&&decide (a=i0)):=fun a _=>by unfold e;rw [Bool.and_comm]
 rw [bF this,wG 128 i0 KQ]
theorem Qs(T:Nat→Nat)(len p k:Nat)(hk:k<8)(hp:p<len)(i:Nat)(_:i<128):pb (ky (cn p k T) len (p/16)) i=(pb (ky T len (p/16)) i ^^ e (8*(p%16)+(7 - k)) i):=by
 unfold pb ky cn e;by_cases hc:16*(p/16)+i/8<len
 ·rw [if_pos hc,if_pos hc];by_cases h:16*(p/16)+i/8=p
  ·rw [if_pos h,Nat.testBit_xor,Nat.testBit_two_pow];congr 1;rw [decide_eq_decide];omega
  ·rw [if_neg h];have:decide (i=8*(p%16)+(7 - k))=false:=by rw [decide_eq_false_iff_not];omega
   rw [this,Bool.xor_false]
 ·rw [if_neg hc,if_neg hc];have:decide (i=8*(p%16)+(7 - k))=false:=by rw [decide_eq_false_iff_not];omega
  rw [this,Bool.xor_false]
theorem Ff(T:Nat→Nat)(len p k r:Nat)(h:r≠p/16)(i:Nat)(hi:i<128):pb (ky (cn p k T) len r) i=pb (ky T len r) i:=by
 unfold pb ky cn;split
 ·rw [if_neg (by omega)]
 ·rfl
theorem wI(H:Nat→Bool)(T:Nat→Nat)(len r:Nat):gh H T len (r+1)=gm (add (gh H T len r) (pb (ky T len r))) H:=rfl
theorem Nk(f g:Nat→Bool)(i:Nat):add f g i=(f i ^^ g i):=rfl
theorem II(H:Nat→Bool)(T:Nat→Nat)(len p k:Nat): ∀r,r≤p/16→nh (gh H (cn p k T) len r) (gh H T len r)
 | 0,_=>fun _ _=>rfl
 | r+1,hr=>fun i hi=>by
  refine pM H (fun j hj=>?_) i;unfold add;rw [II H T len p k r (by omega) j hj,Ff T len p k r (by omega) j hj]
theorem IJ(H:Nat→Bool)(T:Nat→Nat)(len p k:Nat)(hk:k<8)(hp:p<len): ∀d,nh (gh H (cn p k T) len (p/16+1+d)) (add (gh H T len (p/16+1+d)) (gm (e (8*(p%16)+(7 - k))) (pw H (d+1))))
 | 0=>fun i hi=>by
  rw [Nk,Nat.add_zero,wI,wI];have c:nh (add (gh H (cn p k T) len (p/16)) (pb (ky (cn p k T) len (p/16)))) (add (add (gh H T len (p/16)) (pb (ky T len (p/16)))) (e (8*(p%16)+(7 - k)))):=fun j hj=>by
   unfold add;rw [II H T len p k _ (Nat.le_refl _) j hj,Qs T len p k hk hp j hj,Bool.xor_assoc]
  have q:gm (e (8*(p%16)+(7 - k))) H i=gm (e (8*(p%16)+(7 - k))) (pw H (0+1)) i:=(Nh _ (Nj H) i).symm;rw [pM H c i,IG,q]
 | d+1=>fun i hi=>by
  rw [Nk,←Nat.add_assoc,wI,wI];have c:nh (add (gh H (cn p k T) len (p/16+1+d)) (pb (ky (cn p k T) len (p/16+1+d)))) (add (add (gh H T len (p/16+1+d)) (pb (ky T len (p/16+1+d)))) (gm (e (8*(p%16)+(7 - k))) (pw H (d+1)))):=fun j hj=>by
   unfold add;rw [IJ H T len p k hk hp d j hj,Ff T len p k _ (by omega) j hj];unfold add;cases gh H T len (p/16+1+d) j<;>cases pb (ky T len (p/16+1+d)) j<;>cases gm (e (8*(p%16)+(7 - k))) (pw H (d+1)) j<;>rfl
  have q:gm (gm (e (8*(p%16)+(7 - k))) (pw H (d+1))) H i=gm (e (8*(p%16)+(7 - k))) (pw H (d+1+1)) i:=Fa _ _ _ i hi;rw [pM H c i,IG,q]
theorem Kq{H T:Nat→Nat}{len p k:Nat}(hH: ∀j,H j<256)(hk:k<8)(hp:p<len)(h: ∀j,j<16→ku H (cn p k T) len j=ku H T len j): ∀j,j<16→H j=0:=by
 obtain⟨d,hd⟩: ∃d,(len+15)/16=p/16+1+d:=⟨(len+15)/16 - (p/16+1),by omega⟩;have hz:Zero (gm (e (8*(p%16)+(7 - k))) (pw (pb H) (d+1))):=by
  intro i hi;have h1:=IJ (pb H) T len p k hk hp d i hi;rw [←hd]at h1;have h2:=P0 (A:=ku H (cn p k T) len) (B:=ku H T len) h i hi;unfold ku at h2;rw [Rc,Rc]at h2;rw [h2]at h1;unfold add at h1;cases h3:gm (e (8*(p%16)+(7 - k))) (pw (pb H) (d+1)) i
  ·rfl
  ·rw [h3]at h1;cases h4:gh (pb H) T len ((len+15)/16) i<;>rw [h4]at h1<;>simp at h1
 have hx:Zero (mA (8*(p%16)+(7 - k)) (pw (pb H) (d+1))):=fun i hi=>by
  rw [←Yo _ (by omega) _ i hi];exact hz i hi
 have hp0:=Qp _ _ (Fb _ _ hx);intro j hj;refine aei fun b=>?_
 rw [Nat.zero_testBit];by_cases hb:b<8
 ·have:=hp0 (8*j+(7 - b)) (by omega);unfold pb at this;rw [show(8*j+(7 - b))/8=j by omega,show 7 - (8*j+(7 - b))%8=b by omega]at this;exact this
 ·exact pE (n:=8) (hH j) b (by omega)
theorem Fo{n:Nat}{K N:Nat→Nat}{n1 Yp:Nat}{A A':Nat→Nat}{n2 Yq:Nat}{T T':Nat→Nat}{p k:Nat}(hK: ∀j,K j<256)(hk:k<8)(hp:p<J8 n1 n2)(hn:J8 Yp Yq=J8 n1 n2)(ht:vX Yp A' Yq T'=cn p k (vX n1 A n2 T))(h: ∀j,j<16→jl n K N Yp A' Yq T' j=jl n K N n1 A n2 T j):
  ∀j,j<16→enc n K (fun _=>0) j=0:=by
 refine Kq (T:=vX n1 A n2 T) (len:=J8 n1 n2) (p:=p) (k:=k) (yq n K _ hK fun _=>(by decide:0<256)) hk hp fun j hj=>?_
 have h1:=h j hj;unfold jl eu at h1;rw [ht,hn]at h1;have h2:=congrArg (fun y=>y^^^enc n K (N_ (dT N 1) (j/16)) (j%16)) h1;simpa only [Nat.xor_assoc,Nat.xor_self,Nat.xor_zero] using h2
theorem ni(p k:Nat)(T:Nat→Nat):cn p k T p=T p^^^2^k:=by unfold cn;rw [if_pos rfl]
theorem jF{p k:Nat}{T:Nat→Nat}{j:Nat}(h:j≠p):cn p k T j=T j:=by unfold cn;rw [if_neg h]
theorem Kr{n1:Nat}{A:Nat→Nat}{n2:Nat}{T:Nat→Nat}{p k:Nat}(hp:p<n1):vX n1 (cn p k A) n2 T=cn p k (vX n1 A n2 T):=by
 funext j;by_cases hj:j=p
 ·subst hj;rw [ni];unfold vX;rw [if_pos hp,if_pos hp,ni]
 ·rw [jF hj];unfold vX;rw [jF hj]
theorem Ks{n1:Nat}{A:Nat→Nat}{n2:Nat}{T:Nat→Nat}{p k:Nat}(hp:p<n2):vX n1 A n2 (cn p k T)=cn (n1+eE n1+p) k (vX n1 A n2 T):=by
 funext j;by_cases hj:j=n1+eE n1+p
 ·have h1: ¬j<n1:=by omega
  have h2: ¬j<n1+eE n1:=by omega
  have h3:j<n1+eE n1+n2:=by omega
  have h4:j - (n1+eE n1)=p:=by omega
  rw [←hj,ni];unfold vX;rw [if_neg h1,if_neg h2,if_pos h3,if_neg h1,if_neg h2,if_pos h3,h4,ni]
 ·rw [jF hj];unfold vX;split
  ·rfl
  split
  ·rfl
  split
  ·rw [jF (by omega)]
  ·rfl
theorem wJ{s:Nat}(h4:s=4∨s=5):isS s∧4≤s∧bw s=16∧db s≤48:=by
 rcases h4 with rfl | rfl
 ·exact⟨by unfold isS;decide,by decide,rfl,by decide⟩
 ·exact⟨by unfold isS;decide,by decide,rfl,by decide⟩
section
variable {s aM aP na nt:Nat} {K S A T:Nat→Nat}
theorem AZ{F A':Nat→Nat}(h4:s=4∨s=5)(TF:na≤1024)(BX:nt≤65536)(hk:aM<18446744073709551616)(hc:aP<18446744073709551616)(hh: ∀j,j<aY aM aP→F j=eI aM aP j)
  (ho: ¬gP s K S na A' (aY aM aP+(nt+16)) F):dK s (db s) aM K S na A' (aY aM aP+(nt+16)) F=140:=by
 obtain⟨gj,_,SA,_⟩:=wJ h4;obtain⟨a,b,c,d⟩:=mV (T:=F) hk hc hh;have hl:hlen F=aY aM aP:=by unfold hlen;rw [a,b];rfl
 unfold dK;rw [if_neg (adJ.2 gj),if_neg (by omega),if_neg (by omega),if_neg (adJ.2 ⟨by unfold hlen at hl;omega,by rw [c,a],by rw [d,b]⟩),c,if_neg (by omega),hl,SA,if_neg (by omega),if_neg ho]
theorem uh(gj:4≤s)(N:Nat→Nat)(n1:Nat)(B:Nat→Nat)(j:Nat):oG s K N n1 B nt T j=if j<nt then df (kR s) K N T j else jl (kR s) K N n1 B nt (df (kR s) K N T) (j - nt):=by
 unfold oG iY;rw [if_pos gj]
theorem Hf(h4:s=4∨s=5)(hK: ∀j,K j<256)(TF:na≤1024)(BX:nt≤65536)(hk:aM<18446744073709551616)(hc:aP<18446744073709551616){p k:Nat}(hp:p<nt+16)(hb:k<8)
  (hz: ¬∀j,j<16→enc (kR s) K (fun _=>0) j=0):
  dK s (db s) aM K S na A (aY aM aP+(nt+16)) (cn (aY aM aP+p) k (bR s K S aM aP na A nt T))=140:=by
 obtain⟨gj,Ob,SA,_⟩:=wJ h4;have hh: ∀j,j<aY aM aP→cn (aY aM aP+p) k (bR s K S aM aP na A nt T) j=eI aM aP j:=fun j hj=>by
  unfold cn bR ey;rw [if_neg (by omega),if_pos hj]
 refine AZ h4 TF BX hk hc hh ?_;obtain⟨a,b,c,d⟩:=mV (T:=cn (aY aM aP+p) k (bR s K S aM aP na A nt T)) hk hc hh;have hl:hlen (cn (aY aM aP+p) k (bR s K S aM aP na A nt T))=aY aM aP:=by unfold hlen;rw [a,b];rfl
 unfold gP;rw [d,hl,Nat.add_sub_cancel_left];rintro ⟨_,Fp⟩;rw [if_pos Ob,Nat.add_sub_cancel]at Fp;have Nl:cc (cn (aY aM aP+p) k (bR s K S aM aP na A nt T))=cn p k (oG s K (aW S aP) (aY aM aP+na) (vA aM aP A) nt T):=by
  funext j;unfold cc;rw [hl];unfold cn bR;rw [bD];by_cases e:j=p
  ·rw [if_pos (by omega),if_pos e]
  ·rw [if_neg (by omega),if_neg e]
 have oC: ∀j,j<aY aM aP+na→oH (cn (aY aM aP+p) k (bR s K S aM aP na A nt T)) A j=vA aM aP A j:=fun j hj=>by
  unfold oH vA;rw [hl];unfold ey;split
  ·rename_i e;exact hh j e
  ·rfl
 rw [Nl]at Fp;by_cases hpt:p<nt
 ·have sQ: ∀j,j<nt→cn p k (oG s K (aW S aP) (aY aM aP+na) (vA aM aP A) nt T) j=cn p k (df (kR s) K (aW S aP) T) j:=fun j hj=>by
   unfold cn;rw [uh Ob,if_pos hj]
  refine hz (Fo (n:=kR s) (N:=aW S aP) (n1:=aY aM aP+na) (A:=vA aM aP A) (n2:=nt) (T:=df (kR s) K (aW S aP) T) (p:=aY aM aP+na+eE (aY aM aP+na)+p) (k:=k) hK hb (by unfold J8;omega) rfl (Ks hpt) fun j hj=>?_);have:=Fp j hj;rw [ob oC sQ]at this;rw [this];unfold cn;rw [if_neg (by omega),uh Ob,if_neg (by omega),Nat.add_sub_cancel_left]
 ·have sQ: ∀j,j<nt→cn p k (oG s K (aW S aP) (aY aM aP+na) (vA aM aP A) nt T) j=df (kR s) K (aW S aP) T j:=fun j hj=>by
   unfold cn;rw [if_neg (by omega),uh Ob,if_pos hj]
  have:=Fp (p - nt) (by omega);rw [ob oC sQ]at this;unfold cn at this;rw [if_pos (by omega),uh Ob,if_neg (by omega),Nat.add_sub_cancel_left]at this;exact Qr _ _ this.symm
theorem Kt(h4:s=4∨s=5)(hK: ∀j,K j<256)(TF:na≤1024)(BX:nt≤65536)(hk:aM<18446744073709551616)(hc:aP<18446744073709551616){p k:Nat}(hp:p<na)(hb:k<8)
  (hz: ¬∀j,j<16→enc (kR s) K (fun _=>0) j=0):
  dK s (db s) aM K S na (cn p k A) (aY aM aP+(nt+16)) (bR s K S aM aP na A nt T)=140:=by
 obtain⟨gj,Ob,SA,_⟩:=wJ h4;have hh: ∀j,j<aY aM aP→bR s K S aM aP na A nt T j=eI aM aP j:=fun j hj=>by
  unfold bR ey;rw [if_pos hj]
 refine AZ h4 TF BX hk hc hh ?_;obtain⟨a,b,c,d⟩:=mV (T:=bR s K S aM aP na A nt T) hk hc hh;have hl:hlen (bR s K S aM aP na A nt T)=aY aM aP:=by unfold hlen;rw [a,b];rfl
 unfold gP;rw [d,hl,Nat.add_sub_cancel_left];rintro ⟨_,Fp⟩;rw [if_pos Ob,Nat.add_sub_cancel]at Fp;have Nl:cc (bR s K S aM aP na A nt T)=oG s K (aW S aP) (aY aM aP+na) (vA aM aP A) nt T:=by
  funext j;unfold cc;rw [hl];unfold bR;rw [bD]
 have oC: ∀j,j<aY aM aP+na→oH (bR s K S aM aP na A nt T) (cn p k A) j=cn (aY aM aP+p) k (vA aM aP A) j:=fun j hj=>by
  unfold oH;rw [hl];by_cases e:j<aY aM aP
  ·rw [fB e,jF (by omega)];unfold vA;rw [fB e];exact hh j e
  ·obtain⟨i,rfl⟩: ∃i,j=aY aM aP+i:=⟨j - aY aM aP,by omega⟩;rw [bD];by_cases e2:i=p
   ·subst e2;rw [ni,ni];unfold vA;rw [bD]
   ·rw [jF e2,jF (by omega)];unfold vA;rw [bD]
 rw [Nl]at Fp;have sQ: ∀j,j<nt→oG s K (aW S aP) (aY aM aP+na) (vA aM aP A) nt T j=df (kR s) K (aW S aP) T j:=fun j hj=>by
  rw [uh Ob,if_pos hj]
 refine hz (Fo (n:=kR s) (N:=aW S aP) (n1:=aY aM aP+na) (A:=vA aM aP A) (n2:=nt) (T:=df (kR s) K (aW S aP) T) (p:=aY aM aP+p) (k:=k) hK hb (by unfold J8;omega) rfl (Kr (by omega)) fun j hj=>?_);have:=Fp j hj;rw [ob oC sQ]at this;rw [this,uh Ob,if_neg (by omega),Nat.add_sub_cancel_left]
theorem yO(hk:aM<18446744073709551616)(hc:aP<18446744073709551616)(j:Nat)(hj:j<nt):ot s K S (bR s K S aM aP na A nt T) j=T j:=by
 obtain⟨a,b,c,d⟩:=ng (s:=s) (K:=K) (S:=S) (na:=na) (A:=A) (nt:=nt) (T:=T) hk hc;unfold ot;rw [b];have ht:cc (bR s K S aM aP na A nt T) j=iC s K (aW S aP) T j:=by
  unfold cc;rw [c];unfold bR;rw [bD];unfold oG;split
  ·rename_i h4;unfold iY iC;rw [if_pos hj,if_pos h4]
  ·rw [fB hj]
 unfold iC at ht ⊢;split
 ·rename_i h4;rw [if_pos h4]at ht;unfold df at ht ⊢;rw [vg _ _ _ ht,AL]
 ·rename_i h4;rw [if_neg h4]at ht;rw [vg _ _ _ ht,AL]
end
end Go.Se

namespace Go.RX.Ft
open Go Go.RX Go.Proofs Go.RX.Sh Go.RX.Fg Go.RX.Fi Go.RX.Fj Go.RX.Fk Go.Hd Go.Gh Go.Gc Go.Ae Go.RX.Fe Go.Se Go.RX.Fq
def Ku(j:Nat):Nat:=if j=0 then 97 else if j=1 then 98 else if j=2 then 99 else 0
set_option maxHeartbeats 1000000 in
theorem vD:ar adE 4 [] [] fun r hs=>r= .bool true∧hs=[]:=by
 refine ar.post (p:=fun r _=>r= .bool true) ?_ fun v hs h=>⟨[],bU.sub (List.nil_sublist _),h,rfl⟩
 refine Mp _ ?_;unfold Et;intro v0 b0 b1;have hz: ∀j:Nat,(fun _=>0:Nat→Nat) j<256:=fun _=>(by decide:0<256)
 have Yr: ∀j,Ku j<256:=fun j=>by unfold Ku;repeat (first | decide | split)
 have h1:=Fm.lV (B:=[al true v0 16 fun _=>0,aq b1 false [.int .u8 97,.int .u8 98,.int .u8 99]]) (x0:=v0.v) (x1:= .slice none 0 0) (x2:= .slice (some ⟨b1,0,none⟩) 3 3) v0.one rfl rfl 4 5 7 16 0 3 (fun _=>0) (fun _=>0) (fun _=>0) Ku hz hz hz Yr (by decide) (by decide) (ay.get 0 rfl) ay.nil
  (ay.right (A:=[al true v0 16 fun _=>0]) (ay.block (b:=b1) (wr:=false) (n:=3) (m:=3) (A:=fun j=>(Ku j:Nat)) (fun _ _=>rfl) (Nat.le_refl _)))
 refine⟨_,h1,?_⟩;rintro x hs ⟨nw,⟨v1,rfl,rfl⟩,rfl⟩;refine⟨v1,(pL 4 16 5 7 0 3:Nat),(fN 4 16 0 3:Nat),fun j=>(bR 4 (fun _=>0) (fun _=>0) 5 7 0 (fun _=>0) 3 Ku j:Nat),rfl,rfl,?_⟩;intro v2 b2;have h2:=Fm.lV (B:=[al true v2 48 fun _=>0]) (x0:=v2.v) (x1:= .slice none 0 0) (x2:= .slice none 0 0) v2.one rfl rfl 3 8 300 48 0 0 (fun _=>0) (fun _=>0) (fun _=>0) (fun _=>0) hz hz hz hz (by decide) (by decide) (ay.get 0 rfl) ay.nil ay.nil;refine⟨_,h2,?_⟩;rintro x hs ⟨nw,⟨v3,rfl,rfl⟩,rfl⟩;refine⟨v3,(pL 3 48 8 300 0 0:Nat),(fN 3 48 0 0:Nat),fun j=>(bR 3 (fun _=>0) (fun _=>0) 8 300 0 (fun _=>0) 0 (fun _=>0) j:Nat),rfl,rfl,?_⟩;have c1:fN 4 16 0 3=0:=Fm.sP (by unfold isS;decide) rfl (by decide) (by decide);have c2:fN 3 48 0 0=0:=Fm.sP (by unfold isS;decide) rfl (by decide) (by decide);have l1:pL 4 16 5 7 0 3=20:=by unfold pL;rw [if_pos c1];rfl
 have l2:pL 3 48 8 300 0 0=8:=by unfold pL;rw [if_pos c2];rfl
 have b87:bR 4 (fun _=>0) (fun _=>0) 5 7 0 (fun _=>0) 3 Ku 0=87:=by unfold bR ey;rw [if_pos (by decide)];rfl
 dsimp only;rw [c1,c2,l1,l2,b87];refine⟨by decide,fun _=>⟨by decide,fun _=>⟨by decide,fun _=>⟨by decide,fun _=>⟨fun h=>absurd h (by decide),fun _=>?_⟩⟩⟩⟩⟩;have hF: ∀j,bR 3 (fun _=>0) (fun _=>0) 8 300 0 (fun _=>0) 0 (fun _=>0) j<256:=yJ hz hz hz _ _ _ _ _;have o1: ∀E9:Nat,dK 3 48 E9 (fun _=>0) (fun _=>0) 0 (fun _=>0) 8 (bR 3 (fun _=>0) (fun _=>0) 8 300 0 (fun _=>0) 0 (fun _=>0))=if 8=E9 then 0 else 4:=fun E9=>yM (s:=3) (kn:=48) (aM:=8) (aP:=300) (na:=0) (nt:=0) c2 (by decide) (by decide) E9
 have h3:=fun aM:Nat=>Fm.j8 (B:=[al true v2 48 fun _=>0,al true v3 8 (bR 3 (fun _=>0) (fun _=>0) 8 300 0 (fun _=>0) 0 (fun _=>0))]) (x0:=v2.v) (x1:= .slice none 0 0) (x2:=v3.v) v2.one rfl v3.one 3 aM 48 0 8 (fun _=>0) (fun _=>0) (fun _=>0) (bR 3 (fun _=>0) (fun _=>0) 8 300 0 (fun _=>0) 0 (fun _=>0)) hz hz hz hF (by decide) (ay.get 0 rfl) ay.nil (ay.get 1 rfl)
 refine⟨_,h3 8,?_⟩;rintro x hs ⟨nw,⟨v4,rfl,rfl⟩,rfl⟩;refine⟨v4,(_:Nat),_,_,fun j=>(_:Nat),rfl,rfl,?_⟩;refine⟨_,h3 9,?_⟩;rintro x hs ⟨nw,⟨v5,rfl,rfl⟩,rfl⟩;refine⟨v5,(_:Nat),_,_,fun j=>(_:Nat),rfl,rfl,?_⟩;have p8:dK 3 48 8 (fun _=>0) (fun _=>0) 0 (fun _=>0) 8 (bR 3 (fun _=>0) (fun _=>0) 8 300 0 (fun _=>0) 0 (fun _=>0))=0:=o1 8;have p9:dK 3 48 9 (fun _=>0) (fun _=>0) 0 (fun _=>0) 8 (bR 3 (fun _=>0) (fun _=>0) 8 300 0 (fun _=>0) 0 (fun _=>0))=4:=o1 9;have ht:=(ng (s:=3) (K:=fun _=>0) (S:=fun _=>0) (aM:=8) (aP:=300) (na:=0) (A:=fun _=>0) (nt:=0) (T:=fun _=>0) (by decide) (by decide)).2.1;unfold AS;rw [if_pos p8,p8,p9,ht];rfl
theorem Nm{A B:Nat→Int}{n:Nat}(h: ∀j,j<n→A j=B j):bZ (fX A (n:Int))=bZ (fX B (n:Int)):=by
 unfold bZ;refine List.map_congr_left fun j hj=>?_
 have kz:j<n:=by
  rw [adZ]at hj;exact hj
 show UInt8.ofNat (fX A (n:Int) (j+1)).toNat=UInt8.ofNat (fX B (n:Int) (j+1)).toNat;have e:fX A (n:Int) (j+1)=fX B (n:Int) (j+1):=by
  unfold fX ao aA;rw [if_neg (by omega),if_pos (by omega),if_neg (by omega),if_pos (by omega)];exact h j kz
 rw [e]
theorem Tc(b:Nat)(hb:b<9223372036854775808):ae .i64 (ak .quo .i64 (b:Int) 8)=((b/8:Nat):Int):=by
 show ae .i64 (Int.tdiv (b:Int) 8)=_;have:Int.tdiv (b:Int) 8=((b/8:Nat):Int):=rfl;rw [this];simp [ae,IntKind.signed,IntKind.bits];omega
theorem Hg(a n:Nat):ak .rem .i64 (a:Int) (n:Int)=((a%n:Nat):Int):=rfl
theorem Td: ∀k:Fin 8,ak .shl .u8 1 (k.val:Int)=((2^k.val:Nat):Int):=by decide
theorem Fu{F:Nat→Nat}(hF: ∀j,F j<256)(p k:Nat)(hk:k<8):ao (fun j=>((F j:Nat):Int)) p (ak .aD .u8 ((F p:Nat):Int) (ak .shl .u8 1 (k:Int)))=fun j=>((cn p k F j:Nat):Int):=by
 rw [show ak .shl .u8 1 (k:Int)=((2^k:Nat):Int)from Td ⟨k,hk⟩,Fe.cz (hF p) (Nat.pow_lt_pow_right (by decide) hk)];funext j;unfold ao cn;by_cases e:j=p
 ·subst e;rw [if_pos rfl,if_pos rfl]
 ·rw [if_neg e,if_neg e]
theorem Fv{B:List HP}{x:Value}(hx:x.oneCell'=true)(K:Nat→Nat)(hK: ∀j,K j<256)(hb:ay B (aL x 32 K)):
  ar adE 10 [x] B fun r hs=> ∃(b:Nat) (w:V1),r= .tuple #[.pointer (some ⟨b,0,none⟩),.int .i64 0]∧hs=B++[ct b w,eH w 8 K]:=by
 have h:ar adE 10 [x] ([]++[aL x 32 K]) fun r hs=> ∃nw,(∃(b:Nat) (w:V1),r= .tuple #[.pointer (some ⟨b,0,none⟩),.int .i64 0]∧nw=[ct b w,eH w 8 K])∧hs=[]++nw:=by
  refine ar.post (pA ⟨x,hx⟩ K hK) ?_;rintro r hs ⟨b,w,hr,rfl⟩;exact⟨_,bU.sub (List.sublist_cons_self _ _),_,⟨b,w,hr,rfl⟩,rfl⟩
 refine ar.post (ar.iV h (by simp) ?_ (iZ hb)) ?_
 ·rintro v nw ⟨b,w,_,rfl⟩ h hh;simp only [adW,adP,or_false]at hh;rcases hh with rfl | rfl<;>rfl
 ·rintro r hs ⟨nw,⟨b,w,hr,rfl⟩,rfl⟩;exact⟨B++[ct b w,eH w 8 K],by simpa using bU.refl _,b,w,hr,rfl⟩
theorem Hh{B:List HP}{s:Nat}(h4:s=4∨s=5){x:Value}(hx:x.oneCell'=true)(K:Nat→Nat)(hK: ∀j,K j<256)(hb:ay B (aL x (db s) K)):
  ar adE 10 [x] B fun r hs=> ∃(b:Nat) (w:V1),r= .tuple #[.pointer (some ⟨b,0,none⟩),.int .i64 0]∧hs=B++[ct b w,eH w (kR s) K]:=by
 rcases h4 with rfl | rfl
 ·exact Fm.lU hx K hK hb
 ·exact Fv hx K hK hb
theorem Fw{B:List HP}{x:Value}(hx:x.oneCell'=true)(K:Nat→Nat)(hb:ay B (aL x 48 K)):ar adE 10 [x] B fun r hs=>r= .tuple #[.pointer none,.int .i64 2]∧hs=B:=by
 refine pH (L:=[aL x 48 K]) (Q:=fun r=>r= .tuple #[.pointer none,.int .i64 2]) ?_ (iZ hb);refine ar.post (p:=fun r _=>r= .tuple #[.pointer none,.int .i64 2]) ?_ fun v hs h=>⟨[],bU.sub (List.nil_sublist _),h,rfl⟩
 refine Mq _ (fun j=>((K j:Nat):Int)) ⟨x,hx⟩ ?_;unfold Eu;rfl
theorem Fx(b:Nat)(w:V1)(n:Nat)(hn:0<n)(KX:n<100)(K:Nat→Nat)(hK: ∀j,K j<256):
  ar adE 11 [.pointer (some ⟨b,0,none⟩),.agg (ads (aj .u8 16 fun _=>0) []).toArray] [ct b w,eH w n K] fun r hs=>r= .agg (ads (aj .u8 16 fun j=>((enc n K (fun _=>0) j:Nat):Int)) []).toArray∧hs=[ct b w,eH w n K]:=by
 rw [adG,List.append_nil,adG,List.append_nil];exact rq b w n hn KX K (fun _=>0) hK fun _=>(by decide:0<256)
section
variable {s aM aP bit nb na nt:Nat} {Bs A T:Nat→Nat} {v0 v1 v2:V1}
theorem Hj{s aM:Nat}(v:Value)(nw:List HP)(h:Vv s aM v nw): ∀h∈nw,h.wr=true:=by
 intro h0 hh;rcases h with⟨_,o,K,S,_,_,_,rfl⟩ | ⟨_,_,_,rfl⟩
 ·simp only [adW,adP,or_false]at hh;subst hh;rfl
 ·simp only [adW,adP,or_false]at hh;subst hh;rfl
theorem A_{K S:Nat→Nat}(gj:isS s)(TF:na≤1024)(BX:nt≤65536)(j_:aM<18446744073709551616)(jO:aP<18446744073709551616):
  fN s (db s) na nt=0∧pL s (db s) aM aP na nt=aY aM aP+(nt+bw s)∧
  dK s (db s) aM K S na A (aY aM aP+(nt+bw s)) (bR s K S aM aP na A nt T)=0∧
  AS s (db s) aM K S na A (aY aM aP+(nt+bw s)) (bR s K S aM aP na A nt T)=aP∧
  yK s (db s) aM K S na A (aY aM aP+(nt+bw s)) (bR s K S aM aP na A nt T)=nt:=by
 have c0:fN s (db s) na nt=0:=Fm.sP gj rfl (by omega) (by omega);have o0:=yM (K:=K) (S:=S) (A:=A) (T:=T) c0 j_ jO aM;rw [if_pos rfl]at o0;obtain⟨_,h2,h3,_⟩:=ng (s:=s) (K:=K) (S:=S) (na:=na) (A:=A) (nt:=nt) (T:=T) j_ jO;refine⟨c0,?_,o0,?_,?_⟩
 ·unfold pL;rw [if_pos c0]
 ·unfold AS;rw [if_pos o0,h2]
 ·unfold yK;rw [if_pos o0,h3];omega
theorem Rl:aY aM aP≤17:=by
 have h1:=qL aM;have h2:=qL aP;unfold aY;omega
set_option maxHeartbeats 4000000 in
theorem Hk(h4:s=4∨s=5)(hA: ∀j,A j<256)(hT: ∀j,T j<256)(j_:aM<18446744073709551616)(jO:aP<18446744073709551616)(KY:Int)(zk:KY<9223372036854775808):
  ar adE 3 [.int .u16 (s:Int),v0.v,.int .u64 (aM:Int),.int .u64 (aP:Int),v1.v,v2.v,.int .i64 KY] [al false v0 nb Bs,al false v1 na A,al false v2 nt T] fun v _=>v= .bool true:=by
 refine ar.post (p:=fun r _=>r= .bool true) ?_ fun v hs h=>⟨hs,bU.refl _,h⟩
 refine Pz _ (aM:Int) (aP:Int) KY (nb:Int) (na:Int) (nt:Int) (s:Int) (fun j=>(Bs j:Nat)) (fun j=>(A j:Nat)) (fun j=>(T j:Nat)) v0 v1 v2 ?_;unfold H9;obtain⟨gj,Ob,SA,_⟩:=wJ h4;have AV:db s=yH s:=by rcases h4 with rfl | rfl<;>rfl
 have ZO:0<kR s∧kR s<100:=by rcases h4 with rfl | rfl<;>decide
 refine⟨_,vD,?_⟩;rintro x hs ⟨rfl,rfl⟩;refine⟨rfl,rfl,?_⟩;refine⟨_,Fm.lT s,?_⟩;rintro x hs ⟨hr,rfl⟩;rcases hr with⟨_,rfl⟩ | ⟨hn,_⟩
 rotate_left
 ·exact absurd gj hn
 refine⟨_,_,_,_,_,_,rfl,rfl,?_⟩;intro b0;refine⟨_,lz (B:=[al false v0 nb Bs]) (rA s aM v0 nb fun j=>(Bs j:Nat)) Hj (iZ (ay.get 0 rfl)),?_⟩;rintro x hs ⟨nw,(⟨_,o,K,S,hK,hS,rfl,rfl⟩ | ⟨e,he,rfl,rfl⟩),rfl⟩;rotate_left
 ·refine⟨vz,0,0,e,0,fun _=>0,fun _=>0,rfl,rfl,fun b1=>⟨.inl (.inr he),fun _=>⟨.inl (.inl (.inr he)),fun _=>⟨.inl (.inl (.inl (.inr he))),fun _=>⟨fun _=>rfl,fun h=>absurd (.inl (.inl (.inl (.inl (.inr he))))) h⟩⟩⟩⟩⟩
 refine⟨o,(s:Int),(aM:Int),0,(db s:Nat),fun j=>(K j:Nat),fun j=>(S j:Nat),rfl,rfl,?_⟩;intro b1;refine⟨.inr (by omega),fun _=>⟨.inr (by omega),fun _=>⟨.inr (by omega),fun _=>⟨fun _=>rfl,fun hc=>?_⟩⟩⟩⟩;have ZP:na≤300∧nt≤400∧0≤KY:=by omega
 clear hc;obtain⟨bit,rfl⟩:=Int.eq_ofNat_of_zero_le ZP.2.2;have hF: ∀j,bR s K S aM aP na A nt T j<256:=yJ hK hS hT _ _ _ _ _;obtain⟨c0,hL,o0,oT,oL⟩:=A_ (s:=s) (aM:=aM) (aP:=aP) (na:=na) (nt:=nt) (K:=K) (S:=S) (A:=A) (T:=T) gj (by omega) (by omega) j_ jO;have Ys:=Rl (aM:=aM) (aP:=aP);have Yt: ∀j,j<nt→ot s K S (bR s K S aM aP na A nt T) j=T j:=fun j hj=>yO j_ jO j hj
 refine⟨_,Fm.lV (B:=[al true o (db s) K,al false v1 na A,al false v2 nt T]) o.one v1.one v2.one s aM aP (db s) na nt K S A T hK hS hA hT j_ jO (ay.get 0 rfl) (ay.get 1 rfl) (ay.get 2 rfl),?_⟩;rintro x hs ⟨nw,⟨v3,rfl,rfl⟩,rfl⟩;rw [c0,hL];rw [SA]at o0 oT oL ⊢;refine⟨v3,(aY aM aP+(nt+16):Nat),((0:Nat):Int),fun j=>(bR s K S aM aP na A nt T j:Nat),rfl,rfl,?_⟩;refine⟨_,Fm.j8 (B:=[al true o (db s) K,al false v1 na A,al true v3 (aY aM aP+(nt+16)) (bR s K S aM aP na A nt T)]) o.one v1.one v3.one s aM (db s) na (aY aM aP+(nt+16)) K S A (bR s K S aM aP na A nt T) hK hS hA hF (by omega) (ay.get 0 rfl) (ay.get 1 rfl) (ay.get 2 rfl),?_⟩;rintro x hs ⟨nw,⟨v4,rfl,rfl⟩,rfl⟩;rw [o0,oT,oL];refine⟨v4,(nt:Int),(aP:Int),((0:Nat):Int),fun j=>(ot s K S (bR s K S aM aP na A nt T) j:Nat),rfl,rfl,?_⟩;refine⟨_,Fl.qh (B:=[]) aM aP j_ jO,?_⟩;rintro x hs ⟨v5,rfl,rfl⟩;refine⟨v5,(aY aM aP:Nat),fun j=>(eI aM aP j:Nat),rfl,rfl,by omega,fun _=>?_⟩
 iterate 6 refine⟨.inr (by omega),fun _=>?_⟩
 refine⟨fun h=>?_,fun _=>?_⟩
 ·rcases h with((((h | h) | h) | h) | h)
  ·exact absurd rfl h
  ·exact absurd rfl h
  ·exact absurd rfl h
  ·exact absurd (Nm fun j hj=>congrArg (fun z:Nat=>(z:Int)) (Yt j hj)) h
  ·exact absurd (by omega) h
 refine⟨_,Hh (B:=[al true o (db s) K]) h4 o.one K hK (ay.get 0 rfl),?_⟩;rintro x hs ⟨b,w,rfl,rfl⟩;refine⟨b,w,(4*(kR s+7):Nat),fun j=>(sb j:Nat),cw (kR s) K,rfl,rfl,?_⟩;refine⟨fun _=>?_,fun _=>rfl⟩;refine⟨_,Fx b w (kR s) ZO.1 ZO.2 K hK,?_⟩;rintro x hs ⟨rfl,rfl⟩;refine⟨fun j=>((enc (kR s) K (fun _=>0) j:Nat):Int),rfl,rfl,fun _=>rfl,fun R4=>?_⟩;have hz: ¬∀j,j<16→enc (kR s) K (fun _=>0) j=0:=fun h=>R4 fun j hj=>congrArg (fun z:Nat=>(z:Int)) (h j hj)
 intro _
 iterate 3 refine⟨by omega,fun _=>?_⟩
 intro v9;have hd:((aY aM aP+(nt+16):Nat):Int) - ((aY aM aP:Nat):Int)=((nt+16:Nat):Int):=by omega
 have hq:=Tc bit (by omega);have X8:=Hg (bit/8) (nt+16);have hr8:=Hg bit 8;have Wt:bit/8%(nt+16)<nt+16:=Nat.mod_lt _ (by omega);have TG:bit%8<8:=Nat.mod_lt _ (by decide);rw [hd,hq,X8];rw [show(8:Int)=((8:Nat):Int)from rfl,hr8];rw [←adH,Int.toNat_natCast,Fu hF _ _ TG]
 iterate 5 refine⟨by omega,fun _=>?_⟩
 iterate 3 refine⟨by omega,fun _=>?_⟩
 have e1:=Hf (s:=s) (aM:=aM) (aP:=aP) (na:=na) (nt:=nt) (K:=K) (S:=S) (A:=A) (T:=T) h4 hK (by omega) (by omega) j_ jO Wt TG hz;have e1L:yK s (db s) aM K S na A (aY aM aP+(nt+16)) (cn (aY aM aP+bit/8%(nt+16)) (bit%8) (bR s K S aM aP na A nt T))=0:=by unfold yK;rw [e1];rfl
 refine⟨_,Fm.j8 (B:=[al true o (db s) K,al false v1 na A,al true v9 (aY aM aP+(nt+16)) (cn (aY aM aP+bit/8%(nt+16)) (bit%8) (bR s K S aM aP na A nt T))]) o.one v1.one v9.one s aM (db s) na (aY aM aP+(nt+16)) K S A (cn (aY aM aP+bit/8%(nt+16)) (bit%8) (bR s K S aM aP na A nt T)) hK hS hA (Fc hF TG) (by omega) (ay.get 0 rfl) (ay.get 1 rfl) (ay.get 2 rfl),?_⟩;rintro x hs ⟨nw,⟨v10,rfl,rfl⟩,rfl⟩;rw [e1,e1L];refine⟨v10,((0:Nat):Int),_,((140:Nat):Int),fun j=>(_:Nat),rfl,rfl,.inr (by omega),fun _=>⟨fun h=>?_,fun _=>?_⟩⟩
 ·rcases h with h | h
  ·exact absurd rfl h
  ·exact absurd h (by decide)
 refine⟨by omega,fun _=>⟨fun _=>rfl,fun dR=>?_⟩⟩;intro _;refine⟨by omega,fun _=>?_⟩;intro gI;have Yu:0<na:=by omega
 have LZ:bit/8%na<na:=Nat.mod_lt _ Yu;have Vp:=Hg (bit/8) na;rw [Vp,Int.toNat_natCast,Fu hA _ _ TG]
 iterate 3 refine⟨by omega,fun _=>?_⟩
 have e2:=Kt (s:=s) (aM:=aM) (aP:=aP) (na:=na) (nt:=nt) (K:=K) (S:=S) (A:=A) (T:=T) h4 hK (by omega) (by omega) j_ jO LZ TG hz;refine⟨_,Fm.j8 (B:=[al true o (db s) K,al true gI na (cn (bit/8%na) (bit%8) A),al true v3 (aY aM aP+(nt+16)) (bR s K S aM aP na A nt T)]) o.one gI.one v3.one s aM (db s) na (aY aM aP+(nt+16)) K S (cn (bit/8%na) (bit%8) A) (bR s K S aM aP na A nt T) hK hS (Fc hA TG) hF (by omega) (ay.get 0 rfl) (ay.get 1 rfl) (ay.get 2 rfl),?_⟩;rintro x hs ⟨nw,⟨jm,rfl,rfl⟩,rfl⟩;rw [e2];exact⟨jm,(_:Nat),_,((140:Nat):Int),fun j=>(_:Nat),rfl,rfl,rfl⟩
set_option maxHeartbeats 4000000 in
theorem Hl(h4: ¬(s=4∨s=5))(hA: ∀j,A j<256)(hT: ∀j,T j<256)(j_:aM<18446744073709551616)(jO:aP<18446744073709551616)(KY:Int):
  ar adE 3 [.int .u16 (s:Int),v0.v,.int .u64 (aM:Int),.int .u64 (aP:Int),v1.v,v2.v,.int .i64 KY] [al false v0 nb Bs,al false v1 na A,al false v2 nt T] fun v _=>v= .bool true:=by
 refine ar.post (p:=fun r _=>r= .bool true) ?_ fun v hs h=>⟨hs,bU.refl _,h⟩
 refine PA _ (aM:Int) (aP:Int) KY (nb:Int) (na:Int) (nt:Int) (s:Int) (fun j=>(Bs j:Nat)) (fun j=>(A j:Nat)) (fun j=>(T j:Nat)) v0 v1 v2 ?_;unfold H_;refine⟨_,vD,?_⟩;rintro x hs ⟨rfl,rfl⟩;refine⟨rfl,rfl,?_⟩;refine⟨_,Fm.lT s,?_⟩;rintro x hs ⟨hr,rfl⟩;rcases hr with⟨gj,rfl⟩ | ⟨hn,rfl⟩
 rotate_left
 ·refine⟨_,_,_,_,_,_,rfl,rfl,?_⟩;intro b0;refine⟨_,lz (B:=[al false v0 nb Bs]) (rA s aM v0 nb fun j=>(Bs j:Nat)) Hj (iZ (ay.get 0 rfl)),?_⟩;rintro x hs ⟨nw,(⟨h,_⟩ | ⟨e,he,rfl,rfl⟩),rfl⟩
  ·exact absurd h hn
  ·refine⟨vz,0,0,e,0,fun _=>0,fun _=>0,rfl,rfl,fun b1=>⟨.inl (.inr he),fun _=>⟨.inl (.inl (.inr he)),fun _=>⟨.inl (.inl (.inl (.inr he))),fun _=>⟨fun _=>rfl,fun h=>absurd (.inl (.inl (.inl (.inl (.inr he))))) h⟩⟩⟩⟩⟩
 refine⟨_,_,_,_,_,_,rfl,rfl,?_⟩;intro b0;refine⟨_,lz (B:=[al false v0 nb Bs]) (rA s aM v0 nb fun j=>(Bs j:Nat)) Hj (iZ (ay.get 0 rfl)),?_⟩;rintro x hs ⟨nw,(⟨_,o,K,S,hK,hS,rfl,rfl⟩ | ⟨e,he,rfl,rfl⟩),rfl⟩;rotate_left
 ·refine⟨vz,0,0,e,0,fun _=>0,fun _=>0,rfl,rfl,fun b1=>⟨.inl (.inr he),fun _=>⟨.inl (.inl (.inr he)),fun _=>⟨.inl (.inl (.inl (.inr he))),fun _=>⟨fun _=>rfl,fun h=>absurd (.inl (.inl (.inl (.inl (.inr he))))) h⟩⟩⟩⟩⟩
 refine⟨o,(s:Int),(aM:Int),0,(db s:Nat),fun j=>(K j:Nat),fun j=>(S j:Nat),rfl,rfl,?_⟩;intro b1;refine⟨.inr (by omega),fun _=>⟨.inr (by omega),fun _=>⟨.inr (by omega),fun _=>⟨fun _=>rfl,fun hc=>?_⟩⟩⟩⟩;have ZP:na≤300∧nt≤400:=by omega
 clear hc;have ZQ:db s=48:=by
  unfold db;rw [if_neg (by omega),if_neg (by omega)]
 have dR:db s≠yH s:=by
  rw [ZQ];unfold yH;split<;>decide
 have Nc:bw s≤16:=by unfold bw;split<;>(try split)<;>(try split)<;>omega
 have hF: ∀j,bR s K S aM aP na A nt T j<256:=yJ hK hS hT _ _ _ _ _;obtain⟨c0,hL,o0,oT,oL⟩:=A_ (s:=s) (aM:=aM) (aP:=aP) (na:=na) (nt:=nt) (K:=K) (S:=S) (A:=A) (T:=T) gj (by omega) (by omega) j_ jO;have Ys:=Rl (aM:=aM) (aP:=aP);have Yt: ∀j,j<nt→ot s K S (bR s K S aM aP na A nt T) j=T j:=fun j hj=>yO j_ jO j hj
 refine⟨_,Fm.lV (B:=[al true o (db s) K,al false v1 na A,al false v2 nt T]) o.one v1.one v2.one s aM aP (db s) na nt K S A T hK hS hA hT j_ jO (ay.get 0 rfl) (ay.get 1 rfl) (ay.get 2 rfl),?_⟩;rintro x hs ⟨nw,⟨v3,rfl,rfl⟩,rfl⟩;rw [c0,hL];refine⟨v3,(aY aM aP+(nt+bw s):Nat),((0:Nat):Int),fun j=>(bR s K S aM aP na A nt T j:Nat),rfl,rfl,?_⟩;refine⟨_,Fm.j8 (B:=[al true o (db s) K,al false v1 na A,al true v3 (aY aM aP+(nt+bw s)) (bR s K S aM aP na A nt T)]) o.one v1.one v3.one s aM (db s) na (aY aM aP+(nt+bw s)) K S A (bR s K S aM aP na A nt T) hK hS hA hF (by omega) (ay.get 0 rfl) (ay.get 1 rfl) (ay.get 2 rfl),?_⟩;rintro x hs ⟨nw,⟨v4,rfl,rfl⟩,rfl⟩;rw [o0,oT,oL];refine⟨v4,(nt:Int),(aP:Int),((0:Nat):Int),fun j=>(ot s K S (bR s K S aM aP na A nt T) j:Nat),rfl,rfl,?_⟩;refine⟨_,Fl.qh (B:=[]) aM aP j_ jO,?_⟩;rintro x hs ⟨v5,rfl,rfl⟩;refine⟨v5,(aY aM aP:Nat),fun j=>(eI aM aP j:Nat),rfl,rfl,by omega,fun _=>?_⟩
 iterate 6 refine⟨.inr (by omega),fun _=>?_⟩
 refine⟨fun h=>?_,fun _=>?_⟩
 ·rcases h with((((h | h) | h) | h) | h)
  ·exact absurd rfl h
  ·exact absurd rfl h
  ·exact absurd rfl h
  ·exact absurd (Nm fun j hj=>congrArg (fun z:Nat=>(z:Int)) (Yt j hj)) h
  ·exact absurd (by omega) h
 refine⟨_,Fw (B:=[al true o (db s) K]) o.one K (by rw [ZQ];exact ay.get 0 rfl),?_⟩;rintro x hs ⟨rfl,rfl⟩;exact⟨rfl,rfl,fun h=>absurd (.inr rfl) h,fun _=>rfl⟩
theorem Jf(hA: ∀j,A j<256)(hT: ∀j,T j<256)(j_:aM<18446744073709551616)(jO:aP<18446744073709551616)(KY:Int)(zk:KY<9223372036854775808):
  ar adE 3 [.int .u16 (s:Int),v0.v,.int .u64 (aM:Int),.int .u64 (aP:Int),v1.v,v2.v,.int .i64 KY] [al false v0 nb Bs,al false v1 na A,al false v2 nt T] fun v _=>v= .bool true:=by
 by_cases h4:s=4∨s=5
 ·exact Hk h4 hA hT j_ jO KY zk
 ·exact Hl h4 hA hT j_ jO KY
end
open Go Go.RX Go.Proofs Go.RX.Fg
open Go.ChangeShapes Go.WideShapes Go.ChangeAt Go.RowKit
theorem F7{L:List HP}{w:World}(h: ∀x∈L,x.wr=false∧∃S:Nat→Prop,x.p w S∧∀k,S k→k<w.heap.size):bG (L++[xm w.heap.size w]) w:=by
 have h1: ∀x∈L++[xm w.heap.size w],x.wr=false∧∃S:Nat→Prop,x.p w S∧∀k,S k→k<w.heap.size:=by
  intro x hx;rcases List.mem_append.1 hx with hx | hx
  ·exact h x hx
  ·simp only [adW,adP,or_false]at hx;subst hx;exact⟨rfl,fun k=>k<w.heap.size,⟨fun _=>Iff.rfl,fun _ _=>rfl⟩,fun _ h=>h⟩
 generalize L++[xm w.heap.size w]=M at h1;have h2: ∀i:Nat,∃S:Nat→Prop,∀x,M[i]? =some x→x.p w S∧∀k,S k→k<w.heap.size:=by
  intro i;cases hi:M[i]? with
  | none=>exact⟨fun _=>False,fun x hx=>by cases hx⟩
  | some y=>
   obtain⟨_,S,hp,hk⟩:=h1 y (ad3 hi);exact⟨S,fun x hx=>by cases hx;exact⟨hp,hk⟩⟩
 refine⟨fun i=>(h2 i).choose,⟨fun i x hx=>(h2 i).choose_spec x hx,?_⟩⟩;intro i j x y _ hi hj s8;rw [(h1 x (ad3 hi)).1,(h1 y (ad3 hj)).1]at s8;simp at s8
theorem By{w:World}{a:Option Addr}{len cap:Nat}{zs:List Int}(h:uH .u8 w a len cap zs):(al false ⟨.slice a len cap,rfl⟩ len fun j=>(zs.getD j 0).toNat).wr=false∧
  ∃S:Nat→Prop,(al false ⟨.slice a len cap,rfl⟩ len fun j=>(zs.getD j 0).toNat).p w S∧∀k,S k→k<w.heap.size:=by
 have hz:(fun j=>(((zs.getD j 0).toNat:Nat):Int))=fun j=>zs.getD j 0:=by
  funext j;have:0≤zs.getD j 0:=by
   rcases h with⟨_,_,_,rfl⟩ | ⟨_,_,_,_,_,_,hw⟩
   ·simp
   ·by_cases hj:j<zs.length
    ·have:=hw zs[j] (List.getElem_mem hj);simp [Lit.wf,IntKind.min,IntKind.max,IntKind.signed,IntKind.bits]at this;simp [hj];omega
    ·simp [aef (by omega:zs.length≤j)]
  omega
 refine⟨rfl,_,?_,(AD h 5).2⟩;unfold al;rw [hz];exact(AD h 5).1
theorem Ll{w:World}{a:Option Addr}{len cap:Nat}{zs:List Int}(h:uH .u8 w a len cap zs)(j:Nat):(zs.getD j 0).toNat<256:=by
 rcases h with⟨_,_,_,rfl⟩ | ⟨_,_,_,_,_,_,hw⟩
 ·simp
 ·by_cases hj:j<zs.length
  ·have:=hw zs[j] (List.getElem_mem hj);simp [Lit.wf,IntKind.min,IntKind.max,IntKind.signed,IntKind.bits]at this;simp [hj];omega
  ·simp [aef (by omega:zs.length≤j)]
section
variable {H:Type} {enc:TypeId×Value→H} {w:World} {base:Nat} {held:Bool}
theorem F9{fuel:Nat}{cs:List Value}{x:DataW H×List MemPlace}(h:DataW.trod enc adE w base (fun _=>true) held fuel 23 cs=some x): ∃a len cap zs,cs=[.slice a len cap]∧uH .u8 w a len cap zs:=by
 rcases open_ints Try.underlying23 Try.underlying5 (by kernel_rfl) h with⟨mG,_⟩ | ⟨x,l,c,zs,mG,_,hl,hm,hz,_,kZ,hwz⟩
 ·exact⟨none,0,0,[],mG,.inl ⟨rfl,rfl,rfl,rfl⟩⟩
 ·exact⟨some x,l,c,zs,mG,.inr ⟨x,rfl,hl,hm,by simpa using hz,kZ,hwz⟩⟩
end
end Go.RX.Ft
