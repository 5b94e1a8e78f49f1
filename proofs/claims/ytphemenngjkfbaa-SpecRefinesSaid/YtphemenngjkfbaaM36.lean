/- bytes.Compare. -/
import Derived.ProofKit
import Derived.Lib.Walk
import Derived.Lib.BytesEntry
import Derived.Test.YtphemenngjkfbaaM35
open Decidable renaming not_not → agN
open Go.Lib renaming bytesOf → ahd
open Go.Proofs.Try renaming prog → agQ
open Go.Sem renaming run_bind → agK, run_pure → ag0
open List renaming append → agw, append_assoc → ahf, append_nil → agL, getElem?_append_left → agC, getElem?_append_right → agD, getElem?_eq_some_iff → agx
namespace Go.RX.Cb
open Go.RX Go.Proofs Go.RowKit
theorem xp{P:Program}(w:World)(b1 o1 c1 b2 o2 c2 n:Nat)(xs ys:List Int)(hx:xs.length=n)(hy:ys.length=n)(h1: ∀i,i<n→w.cell? ⟨b1,o1+i,none⟩=some (.int .u8 (xs.getD i 0)))
  (h2: ∀i,i<n→w.cell? ⟨b2,o2+i,none⟩=some (.int .u8 (ys.getD i 0))):
  (Extern.BytealgCompare.compare #[.slice (some ⟨b1,o1,none⟩) n c1,.slice (some ⟨b2,o2,none⟩) n c2]).run P w= .ok (.int .i64 (Lib.compareBytes (ahd xs) (ahd ys))) w:=by
 have load: ∀(b o:Nat) (zs:List Int),zs.length=n→(∀i,i<n→w.cell? ⟨b,o+i,none⟩=some (.int .u8 (zs.getD i 0)))→(Extern.Bytes.loadBytes ⟨b,o,none⟩ n .empty).run P w= .ok ⟨(ahd zs).toArray⟩ w:=by
  intro b o zs hl hc;have h:=Lib.run_loadBytesX (P:=P) w zs ⟨b,o,none⟩ .empty (fun j x hj=>by
   have Az:j<zs.length:=(agx.1 hj).1;have e:(⟨b,o,none⟩:Addr).add j=⟨b,o+j,none⟩:=by unfold Addr.add;split<;>simp_all
   rw [e,hc j (by omega),List.getD_eq_getElem?_getD,hj];rfl)
  rw [hl]at h;have he:(⟨ByteArray.empty.data++(ahd zs).toArray⟩:ByteArray)=⟨(ahd zs).toArray⟩:=by
   apply ByteArray.ext;show(#[]:Array UInt8)++(ahd zs).toArray=(ahd zs).toArray;simp
  rw [he]at h;exact h
 change Sem.run P (do pure (goInt (Extern.BytealgCompare.cmp (←Extern.Bytes.bytesOf (.slice (some ⟨b1,o1,none⟩) n c1)) (←Extern.Bytes.bytesOf (.slice (some ⟨b2,o2,none⟩) n c2))))) w=_
 simp only [Extern.Bytes.bytesOf,agK,ag0,load b1 o1 xs hx h1,load b2 o2 ys hy h2,Result.andThen];rw [Lib.cmp_eq];rfl
set_option maxRecDepth 100000 in
set_option maxHeartbeats 1000000 in
theorem CB(w:World)(b1 o1 c1 b2 o2 c2 n:Nat)(xs ys:List Int)(hx:xs.length=n)(hy:ys.length=n)(h1: ∀i,i<n→w.cell? ⟨b1,o1+i,none⟩=some (.int .u8 (xs.getD i 0)))
  (h2: ∀i,i<n→w.cell? ⟨b2,o2+i,none⟩=some (.int .u8 (ys.getD i 0))):
  Calls agQ 116 #[.slice (some ⟨b1,o1,none⟩) n c1,.slice (some ⟨b2,o2,none⟩) n c2] w fun e w'=>e= .returned (.int .i64 (Lib.compareBytes (ahd xs) (ahd ys)))∧w'=w:=by
 have H:=xp (P:=agQ) w b1 o1 c1 b2 o2 c2 n xs ys hx hy h1 h2;clear hx hy h1 h2
 go_enter Try.func116,Try.ntmps116
 go_wp2
 rw [run_callFunc_extern Try.func136 (by kernel_rfl) (by kernel_rfl) (by kernel_rfl) (e:=Extern.BytealgCompare.compare) (by kernel_rfl),H];simp only [Result.andThen];rw [Oper.upon_value]
 go_wp2
 go_ret
 exact⟨rfl,rfl⟩
theorem G6{w:World}{b o:Nat}{cs:List Value}{ty:TypeId}{fz:Nat×Nat}{v:Value}(h:w.heap[b]? =some (.cells cs.toArray ty fz))(hv:cs[o]? =some v):w.cell? ⟨b,o,none⟩=some v:=by
 simp [World.cell?,h,hv]
theorem CC(b1 o1 b2 o2 n:Nat)(w1 w2:Bool)(Z0 Z1:List Value)(xs ys:List Int)(hx:xs.length=n)(hy:ys.length=n)(h1: ∀i,i<n→Z0[o1+i]? =some (.int .u8 (xs.getD i 0)))(h2: ∀i,i<n→Z1[o2+i]? =some (.int .u8 (ys.getD i 0))):
  au agQ 116 [.slice (some ⟨b1,o1,none⟩) n n,.slice (some ⟨b2,o2,none⟩) n n] [ao b1 w1 Z0,ao b2 w2 Z1]
   (fun r hs=>r= .int .i64 (Lib.compareBytes (ahd xs) (ahd ys))∧hs=[ao b1 w1 Z0,ao b2 w2 Z1]):=by
 intro w Fs cU;obtain⟨S,hS⟩:=cU;obtain⟨_,ty1,fz1,g1,_⟩:=(hS.at_ 0 (ao b1 w1 Z0) rfl).1;obtain⟨_,ty2,fz2,g2,_⟩:=(hS.at_ 1 (ao b2 w2 Z1) rfl).1;refine(CB w b1 o1 n b2 o2 n n xs ys hx hy (fun i hi=>G6 g1 (h1 i hi)) (fun i hi=>G6 g2 (h2 i hi))).mono ?_;rintro e w' ⟨rfl,rfl⟩;exact⟨_,_,rfl,⟨rfl,rfl⟩,⟨S,hS⟩,gu.refl w'⟩
end Go.RX.Cb

namespace Go.RX.Cz
open Go.RX Go.Proofs Go.Cp Go.RX.Cs Go.RX.Ct Go.RX.Cu Go.RX.Cv Go.RX.Cw Go.RX.Cx Go.RX.Cy
set_option maxRecDepth 100000
abbrev S2(b:Nat)(m:MR)(b3 b4:Nat):HP:=ao b true (.int .u8 m.a::(.int .u8 m.d::(agw (ak .u8 8 m.dv) (.pointer (some ⟨m.dead,0,none⟩)::(.int .u8 m.st::(agw (ak .u8 16 m.id) (.bool (!(m.out==0))::(.int .u8 m.ac::(.int .u8 m.pa::(.int .u8 m.pd::(agw (ak .u8 32 m.own) (agw (ak .u8 32 m.off) (agw (ak .u8 32 m.dM) ([.pointer (some ⟨b3,0,none⟩),.pointer (some ⟨b4,0,none⟩),.int .u64 m.aP,.int .u64 m.bF,.int .u64 m.since,.int .u64 m.heard,.int .u64 m.bO,.int .u32 m.bA]))))))))))))))
theorem G7{b:Nat}{m:MR}{b3 b4:Nat}(h:m.lO=(b3:Int)+1)(h':m.early=(b4:Int)+1):cD b m=S2 b m b3 b4:=by
 simp only [cD,h,h',fK]
abbrev Bm(i:Nat)(l:List Nat):Prop:=(∀j∈l,j∈others i)∧l.length≤2
theorem rC{i:Nat}:0≤gQ i∧gQ i<2:=by unfold gQ;omega
theorem VV{i:Nat}{f:Int}(hi:i<4)(h:0≤f∧f<2)(hn:f≠((i/2:Nat):Int)):f=gQ i:=by unfold gQ;omega
theorem sy{i:Nat}(hi:i<4){l:List Nat}(h: ∀j∈l,j=fH (gQ i) 0∨j=fH (gQ i) 1): ∀j∈l,j∈others i:=by
 intro j hj;have:=h j hj;simp only [fH,gQ,others,List.mem_cons,List.not_mem_nil,or_false]at this ⊢;omega
theorem KW{k:IntKind}{n j:Nat}{A:Nat→Int}{l:List Value}(h:j<n):(agw (ak k n A) l)[j]? =some (.int k (A j)):=by
 have hl:(ak k n A).length=n:=by simp [ak]
 show(ak k n A++l)[j]? =_;rw [agC (by omega)];simp [ak,h]
theorem PK{k:IntKind}{n j:Nat}{A:Nat→Int}{l:List Value}(h:n≤j):(agw (ak k n A) l)[j]? =l[j - n]? :=by
 have hl:(ak k n A).length=n:=by simp [ak]
 show(ak k n A++l)[j]? =_;rw [agD (by omega),hl]
theorem sA{A:Nat→Int}{n j:Nat}(h:j<n):(aN A 0 n).getD j 0=A j:=by simp [aN,h]
theorem PL{A:Nat→Int}(h:VS (bD A)):yv (aN A 0 16):=by
 obtain⟨l,h1,h2,h3⟩:=h
 rwa [←jw (by rw [h1,jE]) h3]
section
variable {b b1 i now:Nat} {o:List (Mg LI)} {r:List Rc} {o':List (Mg LI)} {e':List (Ev LI)} {r':List Rc} {s:Rs LI} {l:List HP}
theorem S3(x:MR){b3 b4:Nat}(hf:x.lO=(b3:Int)+1)(Gf:x.early=(b4:Int)+1)(h:Is i s.m x)(hp:s.m.ph≠1)(ho:o'=o++s.o)(hr:r'=r++s.r):
  aB (aZ b i now o' e' r'::S2 b1 x b3 b4::Mm.bJ x.dead 256::l) (Out b b1 i now o e' r s):=by
 rw [←G7 hf Gf];exact ej h hp ho hr
theorem Bn(x:MR)(z:DX)(hf:x.lO=(z.b3:Int)+1)(Gf:x.early=(z.b4:Int)+1)(hd:z.A9 0=3∨z.A9 1=3→s.m.dec=true)(h:Is i s.m x)(hp:s.m.ph=1)(ho:o'=o++s.o)(hr:r'=r++s.r):
  aB (aZ b i now o' e' r'::S2 b1 x z.b3 z.b4::Mm.bJ x.dead 256::(kH i z++l)) (Out b b1 i now o e' r s):=by
 rw [←G7 hf Gf];exact PG z h hp ⟨hf,Gf,hd⟩ ho hr
end
abbrev PM(i:Nat)(m:Mc LI)(dq:Bool)(s:Rs LI):Prop:=s=gG {m with dec:=m.dec||dq}∨∃sub k,Bm i sub∧s=leaves zK i m sub 2 (VH (m.dec||dq) k)
theorem Bo{i:Nat}{m:Mc LI}{x:MR}(hx:Is i m x)(hp:m.ph=1)(sub:List Nat)(w oc:Nat):Cp.to zK 5 (bD x.id) i sub w=(leaves zK i m sub w oc).o:=by
 rw [(hx.call (by omega)).c];simp [leaves,hp]
theorem EW{i:Nat}{m:Mc LI}{x:MR}(hx:Is i m x)(hp:m.ph≠0)(oc:Int):Bh x oc=uq m oc.toNat:=by
 have h:=hx.call hp;simp only [Bh,uq,h.c,h.aP,h.out,h.bF,Int.toNat_natCast]
theorem EX{i:Nat}{m:Mc LI}{x:MR}(hx:Is i m x)(hp:m.ph≠0)(oc:Int):Bg x oc=lP zK m oc.toNat:=by
 simp only [Bg,lP,(hx.call hp).c]
theorem vM{i:Nat}{m:Mc LI}{x:MR}(hx:Is i m x)(hp:m.ph≠0)(sub:List Nat)(w:Nat)(oc:Int):[Bh x oc]=(leaves zK i m sub w oc.toNat).r:=congrArg (fun v=>[v]) (EW hx hp oc)
theorem Bp{i:Nat}{m:Mc LI}{x:MR}(hx:Is i m x)(hp:m.ph≠0)(sub:List Nat)(w:Nat)(oc:Int):[Bg x oc]=(leaves zK i m sub w oc.toNat).e:=congrArg (fun v=>[v]) (EX hx hp oc)
abbrev rD(F:Nat→LI→LI→Nat→Nat→LI)(H:LI→LI)(i:Nat)(m:Mc LI)(X:Mg LI)(now:Nat)(s:Rs LI):Prop:= ∃q:Or,q.Ok i∧s=take zK F H i m X now q
structure Bq (X:Mg LI) (k:Nat) (f0 f1:Int) (A5 A6:Nat→Int):Prop where
 k:X.k=k
 c:X.c=bD A5
 f:X.f=fH f0 f1
 key:X.key=aN A6 0 32
theorem ia{i:Nat}{q1 q2 q3 q4 q5 q6:Bool}{sub pg:List Nat}{k:Nat}(h1:Bm i sub)(h2:Bm i pg):(⟨q1,q2,q3,q4,q5,q6,sub,pg,k⟩:Or).Ok i:=⟨h1.1,h1.2,h2.1,h2.2⟩
theorem cr{i:Nat}:Bm i []:=⟨fun _ h=>(nomatch h),Nat.zero_le _⟩
abbrev zq(F:Nat→LI→LI→Nat→Nat→LI):Prop:= ∀(I O N:Nat→Int) (a d a' d':Int),yv (aN I 0 16)→yv (aN O 0 32)→yv (aN N 0 32)→(0≤a∧a<2)→(0≤d∧d<2)→(0≤a'∧a'<2)→(0≤d'∧d'<2)→
 au agQ 44 [.agg (agw (ak .u8 16 I) ([])).toArray,.agg (agw (ak .u8 32 O) ([])).toArray,.agg (agw (ak .u8 32 N) ([])).toArray,.agg #[.int .u8 a,.int .u8 d],.agg #[.int .u8 a',.int .u8 d']] [] fun rv hs=> ∃A:Nat→Int,rv= .agg (agw (ak .u8 32 A) ([])).toArray∧hs=[]∧aN A 0 32=F (bD I) (aN O 0 32) (aN N 0 32) (fH a d) (fH a' d')
abbrev KX(H:LI→LI):Prop:= ∀(b1:Nat) (m:MR),yv (aN m.dM 0 32)→YQ b1 m (H (aN m.dM 0 32))
structure KM (m:Mc LI):Prop where
 c:m.ph≠0→VS m.c
 own:m.ph≠0→yv m.own
 off:m.ph≠0→yv m.off
 dM:m.ph≠0→yv m.dM
structure KS (X:Mg LI):Prop where
 c:VS X.c
 key:yv X.key
theorem yy(b b1 i now:Nat)(hi:i<4)(m:Mc LI)(x:MR)(hx:Is i m x)(hp:m.ph=1)(y:DX)(hy:MX m x y)(o:List (Mg LI))(e:List (Ev LI))(r:List Rc)(hB:o.length≤800∧e.length≤800∧r.length≤800)(f0 f1:Int)(_:0≤f0∧f0<2)(uv:0≤f1∧f1<2)(how:Int)(dq:Bool)(YS:how=3→dq=true):au agQ 90 [.pointer (some ⟨b1,0,none⟩),.pointer (some ⟨b,0,none⟩),.agg #[.int .u8 f0,.int .u8 f1],.int .u8 how,.int .u64 (now:Int)] ([aZ b i now o e r,cD b1 x,Mm.bJ x.dead 256]++kH i y) (Does (PM i m dq) b b1 i now o e r):=by
 refine jh ?_;obtain⟨a,d,dv,dead,st,id,out,my,pa,pd,own,off,dM,lO,early,aP,bF,since,heard,bO,bA⟩:=x;have h1:st=1:=by have:=hx.st;rw [hp]at this;exact this
 obtain⟨h2,h3,h4⟩:=hy;simp only at h2 h3;subst h1 h2 h3;have hc:=hx.call (by omega);rw [G7 (m:=(⟨a,d,dv,dead,1,id,out,my,pa,pd,own,off,dM,((y.b3:Int)+1),((y.b4:Int)+1),aP,bF,since,heard,bO,bA⟩:MR)) rfl rfl];refine MO _ a d 0 out my pa pd 0 0 aP bF since heard bO bA 0 0 0 0 0 f0 f1 (now:Int) 0 0 0 0 0 0 how (gQ i) y.cR dv id own off dM (fun _=>0) (fun _=>0) (fun _=>0) (fun _=>0) y.A9 y.v0 b b1 dead y.b3 y.b4 (Mm.bJ dead 256) (Mm.bJ dead 256) (Mm.pw y.b4 4) (aZ b i now o e r) ?_;unfold DK;intro b5;refine⟨_,Rg.Jj y.b3 y.v0 (gQ i) y.cR 2 f0 f1 how y.A9 uv.1 (by omega) (by decide),?_⟩;rintro v hs ⟨c,A9,rfl,rfl,Vg⟩;have h5:A9 0=3∨A9 1=3→(m.dec||dq)=true:=by
  intro h9;rcases Vg with⟨_,rfl⟩ | ⟨_,_,rfl⟩
  ·simp [h4 h9]
  ·by_cases hw:how=3
   ·simp [YS hw]
   ·have:y.A9 0=3∨y.A9 1=3:=by
     unfold aj at h9;rcases h9 with h9 | h9<;>split at h9
     ·exact absurd h9 hw
     ·exact .inl h9
     ·exact absurd h9 hw
     ·exact .inr h9
    simp [h4 this]
 refine⟨c,A9,rfl,rfl,_,Rg.Jk y.b3 y.v0 (gQ i) y.cR 2 A9 (by decide) (by decide),?_⟩;rintro v hs ⟨oc,q,rfl,rfl, -,Vk⟩;refine⟨oc,q,rfl,rfl,fun _=>?_,fun hq=>?_⟩
 ·exact⟨rfl,gG {m with dec:=m.dec||dq},e,.inl rfl,⟨[],(agL _).symm,Nat.zero_le _,rfl⟩,Bn (⟨a,d,dv,dead,1,id,out,my,pa,pd,own,off,dM,((y.b3:Int)+1),((y.b4:Int)+1),aP,bF,since,heard,bO,bA⟩:MR) ⟨y.b3,y.b4,y.v0,y.cR,A9⟩ rfl rfl h5 hx.dec hp (by simp [gG]) (by simp [gG])⟩
 ·have hoc:0≤oc∧∃k,oc.toNat=VH (m.dec||dq) k:=by
   rcases Vk (by simpa using hq)with⟨rfl,hm9⟩ | rfl | rfl
   ·refine⟨by decide,2,?_⟩;have h9: ∃j:Int,0≤j∧j<2∧A9 j.toNat=3:=by simpa [Rg.Bk] using hm9
    obtain⟨j,j0,j1,j2⟩:=h9;have:A9 0=3∨A9 1=3:=by
     have:j=0∨j=1:=by omega
     rcases this with rfl | rfl
     ·exact .inl j2
     ·exact .inr j2
    simp [VH,h5 this]
   ·exact⟨by decide,1,rfl⟩
   ·exact⟨by decide,0,rfl⟩
  obtain⟨hoc,k,hk⟩:=hoc;have hl:=oH b b1 i now (⟨a,d,dv,dead,1,id,out,my,pa,pd,own,off,dM,((y.b3:Int)+1),((y.b4:Int)+1),aP,bF,since,heard,bO,bA⟩:MR) o e r (by omega) y.b3 y.b4 y.v0 (gQ i) y.cR A9 (Mm.pw y.b4 4) rC rfl rfl rfl (hx.ba (by omega)) (hx.me (by omega)) 2 oc hoc;simp only [cD,fK]at hl;refine⟨_,hl,?_⟩;rintro v hs ⟨rfl,o',sub,rfl,iX,vw,rfl⟩;exact⟨_,rfl,rfl,rfl,leaves zK i m sub 2 oc.toNat,_,.inr ⟨sub,k,⟨sy hi iX,vw⟩,by rw [hk]⟩,⟨[_],rfl,(by simp),Bp hx (by omega) sub 2 oc⟩,S3 (⟨a,d,dv,dead,0,id,out,my,pa,pd,own,off,dM,((y.b3:Int)+1),((y.b4:Int)+1),aP,bF,since,heard,bO,bA⟩:MR) rfl rfl hx.idle (by simp [leaves]) (congrArg (o++ ·) (Bo hx hp sub 2 oc.toNat)) (congrArg (r++ ·) (vM hx (by omega) sub 2 oc))⟩
theorem uw(b b1 i now:Nat)(_:i<4)(m:Mc LI)(x:MR)(hx:Is i m x)(hp:m.ph=1)(y:DX)(hy:MX m x y)(o:List (Mg LI))(e:List (Ev LI))(r:List Rc)(hB:o.length≤800∧e.length≤800∧r.length≤800)(f0 f1:Int)(tr:0≤f0∧f0<2)(uv:0≤f1∧f1<2)(bM bH bL bX bZ bS:Int)(A5 A6:Nat→Int)(F:Nat→LI→LI→Nat→Nat→LI)(H:LI→LI)(X:Mg LI)(hX:Bq X 3 f0 f1 A5 A6):au agQ 89 [.pointer (some ⟨b1,0,none⟩),.pointer (some ⟨b,0,none⟩),.agg #[.int .u8 f0,.int .u8 f1],.agg (.int .u8 bM::(agw (ak .u8 16 A5) (.int .u8 bH::(.int .u8 bL::(.int .u8 bX::(agw (ak .u8 32 A6) ([.int .u32 bZ,.slice none 0 0,.int .u8 bS]))))))).toArray,.int .u64 (now:Int)] ([aZ b i now o e r,cD b1 x,Mm.bJ x.dead 256]++kH i y) (Does (rD F H i m X now) b b1 i now o e r):=by
 refine jh ?_;obtain⟨a,d,dv,dead,st,id,out,my,pa,pd,own,off,dM,lO,early,aP,bF,since,heard,bO,bA⟩:=x;have h1:st=1:=by have:=hx.st;rw [hp]at this;exact this
 obtain⟨h2,h3,h4⟩:=hy;simp only at h2 h3;subst h1 h2 h3;have hc:=hx.call (by omega);have fQ:(∀j,j<16→id j=A5 j)↔m.c=X.c:=(px hx (by omega) A5).trans (by rw [hX.c]);rw [G7 (m:=(⟨a,d,dv,dead,1,id,out,my,pa,pd,own,off,dM,((y.b3:Int)+1),((y.b4:Int)+1),aP,bF,since,heard,bO,bA⟩:MR)) rfl rfl];refine Co _ a d 0 out my pa pd 0 0 aP bF since heard bO bA 0 0 0 0 0 f0 f1 (now:Int) bM bH bL bX bZ bS 0 (gQ i) y.cR dv id own off dM A5 A6 (fun _=>0) (fun _=>0) y.A9 y.v0 b b1 dead y.b3 y.b4 (Mm.bJ dead 256) (Mm.bJ dead 256) (Mm.pw y.b4 4) (aZ b i now o e r) ?_;unfold tj;intro b5 b6;refine⟨fun c1=>⟨_,cA b i now o e r (by omega) f0 f1 5 0 0 0 0 1 A5 (fun _=>0) tr uv (by decide),?_⟩,fun c1=>⟨_,Mm.G0 y.b4 4 f0 f1 (by decide) (by decide),?_⟩⟩
 ·rintro v hs ⟨rfl,rfl⟩;exact⟨_,rfl,rfl,rfl,⟨m,[⟨5,X.c,i,X.f,zK,1⟩],[],[]⟩,_,⟨⟨false,false,false,false,false,false,[],[],0⟩,ia cr cr,by simp [take,hX.k,Mc.has,hp,(show¬m.c=X.c from fun h=>c1 (fQ.2 h))]⟩,⟨[],(agL _).symm,Nat.zero_le _,rfl⟩,Bn (⟨a,d,dv,dead,1,id,out,my,pa,pd,own,off,dM,((y.b3:Int)+1),((y.b4:Int)+1),aP,bF,since,heard,bO,bA⟩:MR) ⟨y.b3,y.b4,y.v0,y.cR,y.A9⟩ rfl rfl h4 hx hp (by rw [hX.c,hX.f];rfl) (agL _).symm⟩
 ·rintro v hs ⟨rfl,rfl⟩;exact⟨rfl,rfl,rfl,gG m,_,⟨⟨false,false,false,false,false,false,[],[],0⟩,ia cr cr,by simp [take,hX.k,Mc.has,hp,fQ.1 (agN.1 c1)]⟩,⟨[],(agL _).symm,Nat.zero_le _,rfl⟩,Bn (⟨a,d,dv,dead,1,id,out,my,pa,pd,own,off,dM,((y.b3:Int)+1),((y.b4:Int)+1),aP,bF,since,heard,bO,bA⟩:MR) ⟨y.b3,y.b4,y.v0,y.cR,y.A9⟩ rfl rfl h4 hx hp (agL _).symm (agL _).symm⟩
theorem ux(b b1 i now:Nat)(hi:i<4)(m:Mc LI)(x:MR)(hx:Is i m x)(hp:m.ph=1)(y:DX)(hy:MX m x y)(o:List (Mg LI))(e:List (Ev LI))(r:List Rc)(hB:o.length≤800∧e.length≤800∧r.length≤800)(f0 f1:Int)(tr:0≤f0∧f0<2)(uv:0≤f1∧f1<2)(bM bH bL bX bZ bS:Int)(A5 A6:Nat→Int)(F:Nat→LI→LI→Nat→Nat→LI)(H:LI→LI)(X:Mg LI)(hX:Bq X 5 f0 f1 A5 A6)(hw:bS=2↔X.why=2):au agQ 91 [.pointer (some ⟨b1,0,none⟩),.pointer (some ⟨b,0,none⟩),.agg #[.int .u8 f0,.int .u8 f1],.agg (.int .u8 bM::(agw (ak .u8 16 A5) (.int .u8 bH::(.int .u8 bL::(.int .u8 bX::(agw (ak .u8 32 A6) ([.int .u32 bZ,.slice none 0 0,.int .u8 bS]))))))).toArray,.int .u64 (now:Int)] ([aZ b i now o e r,cD b1 x,Mm.bJ x.dead 256]++kH i y) (Does (rD F H i m X now) b b1 i now o e r):=by
 refine jh ?_;obtain⟨a,d,dv,dead,st,id,out,my,pa,pd,own,off,dM,lO,early,aP,bF,since,heard,bO,bA⟩:=x;have h1:st=1:=by have:=hx.st;rw [hp]at this;exact this
 obtain⟨h2,h3,h4⟩:=hy;simp only at h2 h3;subst h1 h2 h3;have hc:=hx.call (by omega);have fQ:(∀j,j<16→id j=A5 j)↔m.c=X.c:=(px hx (by omega) A5).trans (by rw [hX.c]);have hm:=fun how dq YS=>yy b b1 i now hi m (⟨a,d,dv,dead,1,id,out,my,pa,pd,own,off,dM,((y.b3:Int)+1),((y.b4:Int)+1),aP,bF,since,heard,bO,bA⟩:MR) hx hp y ⟨rfl,rfl,h4⟩ o e r hB f0 f1 tr uv how dq YS
 simp only [cD,fK]at hm;rw [G7 (m:=(⟨a,d,dv,dead,1,id,out,my,pa,pd,own,off,dM,((y.b3:Int)+1),((y.b4:Int)+1),aP,bF,since,heard,bO,bA⟩:MR)) rfl rfl];refine Pq _ a d 0 out my pa pd 0 0 aP bF since heard bO bA 0 0 0 0 0 f0 f1 (now:Int) bM bH bL bX bZ bS 0 (gQ i) y.cR dv id own off dM A5 A6 (fun _=>0) (fun _=>0) y.A9 y.v0 b b1 dead y.b3 y.b4 (Mm.bJ dead 256) (Mm.bJ dead 256) (Mm.pw y.b4 4) (aZ b i now o e r) ?_;unfold GQ;intro b5 b6;refine⟨fun c1=>⟨_,Mm.n8 dead 256 A5 (by decide) (by decide),?_⟩,fun c1=>⟨fun c3=>⟨_,hm 3 true fun _=>rfl,?_⟩,fun c3=>⟨_,hm 4 false fun h=>absurd h (by decide),?_⟩⟩⟩
 ·rintro v hs ⟨rfl,rfl⟩;exact⟨rfl,rfl,rfl,gG m,_,⟨⟨false,false,false,false,false,false,[],[],0⟩,ia cr cr,by simp [take,hX.k,Mc.has,hp,(show¬m.c=X.c from fun h=>c1 (fQ.2 h))]⟩,⟨[],(agL _).symm,Nat.zero_le _,rfl⟩,Bn (⟨a,d,dv,dead,1,id,out,my,pa,pd,own,off,dM,((y.b3:Int)+1),((y.b4:Int)+1),aP,bF,since,heard,bO,bA⟩:MR) ⟨y.b3,y.b4,y.v0,y.cR,y.A9⟩ rfl rfl h4 hx hp (agL _).symm (agL _).symm⟩
 all_goals
  have c2:=fQ.1 (agN.1 c1);have c4:=c3;rw [hw]at c4;have c5:(X.why==2)=decide (X.why=2):=by by_cases h:X.why=2<;>simp [h]
  simp only [c4,decide_true,decide_false]at c5;rintro v hs ⟨rfl,s,e',hQ | ⟨sub,k,h1,hQ⟩,hT,rfl⟩
  ·exact⟨_,_,rfl,rfl,rfl,s,e',⟨⟨false,false,false,false,false,false,[],[],0⟩,ia cr cr,by simp [take,hX.k,Mc.has,hp,c2,hQ,c4,c5]⟩,hT,aB.sub (List.sublist_append_left [_,_] _)⟩
  ·exact⟨_,_,rfl,rfl,rfl,s,e',⟨⟨false,false,false,true,false,false,sub,[],k⟩,ia h1 cr,by simp [take,hX.k,Mc.has,hp,c2,hQ,c4,c5]⟩,hT,aB.sub (List.sublist_append_left [_,_] _)⟩
theorem S4(b1 b6:Nat)(A A5 A6 dv own off dM:Nat→Int)(bM bH bL bX bZ bS a d st out my pa pd aP bF since heard bO bA:Int)(dead:Nat)(v3 v4:Value):
  au agQ 116 [.slice (some ⟨b6,1,none⟩) 16 16,.slice (some ⟨b1,12,none⟩) 16 16] [ao b6 true (.int .u8 bM::(agw (ak .u8 16 A5) (.int .u8 bH::(.int .u8 bL::(.int .u8 bX::(agw (ak .u8 32 A6) ([.int .u32 bZ,.slice none 0 0,.int .u8 bS]))))))),ao b1 true (.int .u8 a::(.int .u8 d::(agw (ak .u8 8 dv) (.pointer (some ⟨dead,0,none⟩)::(.int .u8 st::(agw (ak .u8 16 A) (.bool (!(out==0))::(.int .u8 my::(.int .u8 pa::(.int .u8 pd::(agw (ak .u8 32 own) (agw (ak .u8 32 off) (agw (ak .u8 32 dM) ([v3,v4,.int .u64 aP,.int .u64 bF,.int .u64 since,.int .u64 heard,.int .u64 bO,.int .u32 bA]))))))))))))))]
   fun rv hs=>(∃k:Int,rv= .int .i64 k)∧hs=[ao b6 true (.int .u8 bM::(agw (ak .u8 16 A5) (.int .u8 bH::(.int .u8 bL::(.int .u8 bX::(agw (ak .u8 32 A6) ([.int .u32 bZ,.slice none 0 0,.int .u8 bS]))))))),ao b1 true (.int .u8 a::(.int .u8 d::(agw (ak .u8 8 dv) (.pointer (some ⟨dead,0,none⟩)::(.int .u8 st::(agw (ak .u8 16 A) (.bool (!(out==0))::(.int .u8 my::(.int .u8 pa::(.int .u8 pd::(agw (ak .u8 32 own) (agw (ak .u8 32 off) (agw (ak .u8 32 dM) ([v3,v4,.int .u64 aP,.int .u64 bF,.int .u64 since,.int .u64 heard,.int .u64 bO,.int .u32 bA]))))))))))))))]:=by
 refine au.post (Cb.CC b6 1 b1 12 16 true true _ _ (aN A5 0 16) (aN A 0 16) (jE _ _ _) (jE _ _ _) (fun j hj=>?_) fun j hj=>?_) fun rv hs ⟨h1,h2⟩=>⟨_,aB.refl _,⟨_,h1⟩,h2⟩
 ·rw [sA hj,Nat.add_comm,List.getElem?_cons_succ,KW hj]
 ·rw [sA hj,show 12+j=(j+10)+1+1 by omega,List.getElem?_cons_succ,List.getElem?_cons_succ,PK (by omega),show j+10 - 8=j+1+1 by omega,List.getElem?_cons_succ,List.getElem?_cons_succ,KW hj]
theorem rE(b b1 i now:Nat)(hi:i<4)(m:Mc LI)(x:MR)(hx:Is i m x)(hp:m.ph=1)(y:DX)(hy:MX m x y)(o:List (Mg LI))(e:List (Ev LI))(r:List Rc)(hB:o.length≤800∧e.length≤800∧r.length≤800)(f0 f1:Int)(tr:0≤f0∧f0<2)(uv:0≤f1∧f1<2)(bM bH bL bX bZ bS:Int)(A5 A6:Nat→Int)(F:Nat→LI→LI→Nat→Nat→LI)(H:LI→LI)(X:Mg LI)(hX:Bq X 1 f0 f1 A5 A6)(hM:zq F)(hK:KM m)(hS:KS X)(S5:f0=gQ i):au agQ 87 [.pointer (some ⟨b1,0,none⟩),.pointer (some ⟨b,0,none⟩),.agg #[.int .u8 f0,.int .u8 f1],.agg (.int .u8 bM::(agw (ak .u8 16 A5) (.int .u8 bH::(.int .u8 bL::(.int .u8 bX::(agw (ak .u8 32 A6) ([.int .u32 bZ,.slice none 0 0,.int .u8 bS]))))))).toArray,.int .u64 (now:Int)] ([aZ b i now o e r,cD b1 x,Mm.bJ x.dead 256]++kH i y) (Does (rD F H i m X now) b b1 i now o e r):=by
 refine jh ?_;obtain⟨a,d,dv,dead,st,id,out,my,pa,pd,own,off,dM,lO,early,aP,bF,since,heard,bO,bA⟩:=x;have h1:st=1:=by have:=hx.st;rw [hp]at this;exact this
 obtain⟨h2,h3,h4⟩:=hy;simp only at h2 h3;subst h1 h2 h3;have hc:=hx.call (by omega);have fQ:(∀j,j<16→id j=A5 j)↔m.c=X.c:=(px hx (by omega) A5).trans (by rw [hX.c]);rw [G7 (m:=(⟨a,d,dv,dead,1,id,out,my,pa,pd,own,off,dM,((y.b3:Int)+1),((y.b4:Int)+1),aP,bF,since,heard,bO,bA⟩:MR)) rfl rfl];refine MN _ a d 0 out my pa pd 0 0 aP bF since heard bO bA 0 0 0 0 0 f0 f1 (now:Int) bM bH bL bX bZ bS 0 (gQ i) y.cR dv id own off dM A5 A6 (fun _=>0) (fun _=>0) y.A9 y.v0 b b1 dead y.b3 y.b4 (Mm.bJ dead 256) (Mm.bJ dead 256) (Mm.pw y.b4 4) (aZ b i now o e r) ?_;unfold DJ;intro b5 b6;refine⟨fun c1=>⟨_,Mm.uu dead 256 A5,?_⟩,fun c1=>⟨rfl,gG m,_,⟨⟨true,false,false,false,false,false,[],[],0⟩,ia cr cr,by simp [take,hX.k]⟩,⟨[],(agL _).symm,Nat.zero_le _,rfl⟩,Bn (⟨a,d,dv,dead,1,id,out,my,pa,pd,own,off,dM,((y.b3:Int)+1),((y.b4:Int)+1),aP,bF,since,heard,bO,bA⟩:MR) ⟨y.b3,y.b4,y.v0,y.cR,y.A9⟩ rfl rfl h4 hx hp (agL _).symm (agL _).symm⟩⟩;rintro v hs ⟨⟨q,rfl⟩,rfl⟩;refine⟨q,rfl,rfl,fun _=>⟨rfl,gG m,_,⟨⟨true,false,false,false,false,false,[],[],0⟩,ia cr cr,by simp [take,hX.k]⟩,⟨[],(agL _).symm,Nat.zero_le _,rfl⟩,Bn (⟨a,d,dv,dead,1,id,out,my,pa,pd,own,off,dM,((y.b3:Int)+1),((y.b4:Int)+1),aP,bF,since,heard,bO,bA⟩:MR) ⟨y.b3,y.b4,y.v0,y.cR,y.A9⟩ rfl rfl h4 hx hp (agL _).symm (agL _).symm⟩,fun _=>⟨fun c2=>⟨rfl,gG m,_,⟨⟨false,false,false,false,false,false,[],[],0⟩,ia cr cr,by simp [take,hX.k,hp,fQ.1 c2]⟩,⟨[],(agL _).symm,Nat.zero_le _,rfl⟩,Bn (⟨a,d,dv,dead,1,id,out,my,pa,pd,own,off,dM,((y.b3:Int)+1),((y.b4:Int)+1),aP,bF,since,heard,bO,bA⟩:MR) ⟨y.b3,y.b4,y.v0,y.cR,y.A9⟩ rfl rfl h4 hx hp (agL _).symm (agL _).symm⟩,fun c2=>?_⟩⟩
 replace c2: ¬m.c=X.c:=fun h=>c2 (fQ.2 h)
 refine⟨fun c3=>⟨_,S4 b1 b6 id A5 A6 dv own off dM bM bH bL bX bZ bS a d 1 out my pa pd aP bF since heard bO bA dead _ _,?_⟩,fun c3=>⟨_,cA b i now o e r (by omega) f0 f1 4 0 0 0 0 0 A5 (fun _=>0) tr uv (by decide),?_⟩⟩
 ·rintro v hs ⟨⟨k,rfl⟩,rfl⟩;refine⟨k,rfl,rfl,fun c4=>?_,fun c4=>⟨rfl,gG m,_,⟨⟨false,false,false,false,false,true,[],[],0⟩,ia cr cr,by simp [take,hX.k,hp,c2]⟩,⟨[],(agL _).symm,Nat.zero_le _,rfl⟩,Bn (⟨a,d,dv,dead,1,id,out,my,pa,pd,own,off,dM,((y.b3:Int)+1),((y.b4:Int)+1),aP,bF,since,heard,bO,bA⟩:MR) ⟨y.b3,y.b4,y.v0,y.cR,y.A9⟩ rfl rfl h4 hx hp (agL _).symm (agL _).symm⟩⟩;intro b7;have hl:=oH b b1 i now (⟨a,d,dv,dead,1,id,out,my,pa,pd,own,off,dM,((y.b3:Int)+1),((y.b4:Int)+1),aP,bF,since,heard,bO,bA⟩:MR) o e r (by omega) y.b3 y.b4 y.v0 (gQ i) y.cR y.A9 (Mm.pw y.b4 4) rC rfl rfl rfl (hx.ba (by omega)) (hx.me (by omega)) 4 7 (by decide);simp only [cD,fK]at hl;refine⟨_,hl,?_⟩;rintro v hs ⟨rfl,o',sub,rfl,iX,vw,rfl⟩;have c5:bH=f0∧bL=f1:=agN.1 fun h=>c1 (.inl h)
  have hr:=yu b b1 i now (⟨a,d,dv,dead,0,id,out,my,pa,pd,own,off,dM,((y.b3:Int)+1),((y.b4:Int)+1),aP,bF,since,heard,bO,bA⟩:MR) (o++Cp.to zK 5 (bD id) i sub 4) (e++[⟨5,bD id,0,zK,7⟩]) (r++[⟨bD id,aP.toNat,!(out==0),7,bF.toNat⟩]) (by simp [Cp.to];omega) hx.a hx.d bM bH bL bX bZ bS (c5.1.trans S5) A5 A6;simp only [cD,fK]at hr;refine⟨_,rfl,rfl,_,hr,?_⟩;rintro v hs ⟨rfl,rfl⟩;obtain⟨rfl,rfl⟩:=c5;have mY:=PL (hX.c▸hS.c);have ha:=tq b b1 i now (⟨a,d,dv,dead,2,A5,0,bH,bH,bL,(fun _=>0),A6,(fun _=>0),((y.b3:Int)+1),((y.b4:Int)+1),(now:Int),0,(now:Int),0,0,0⟩:MR) (o++Cp.to zK 5 (bD id) i sub 4) ((e++[⟨5,bD id,0,zK,7⟩])++[⟨2,bD A5,0,zK,0⟩]) (r++[⟨bD id,aP.toNat,!(out==0),7,bF.toNat⟩]) (by simp [Cp.to];omega) tr uv ⟨hx.a,hx.d,S5⟩ own _ (hM A5 A6 own bH bL a d mY (hX.key▸hS.key) (hc.own▸hK.own (by omega)) tr uv (by have:=hx.a;simp only at this;omega) (by have:=hx.d;simp only at this;omega));simp only [cD,fK]at ha;refine⟨_,_,_,_,_,_,rfl,rfl,_,ha,?_⟩;rintro v hs ⟨rfl,A,hA,rfl⟩;refine⟨_,_,_,_,rfl,rfl,rfl,⟨(answers zK F i (rings zK X now) m.own now).m,(leaves zK i m sub 4 7).o++(answers zK F i (rings zK X now) m.own now).o,(leaves zK i m sub 4 7).e++(nZ zK X::(answers zK F i (rings zK X now) m.own now).e),(leaves zK i m sub 4 7).r⟩,_,⟨⟨false,false,true,false,false,false,sub,[],0⟩,ia ⟨sy hi iX,vw⟩ cr,by simp [take,hX.k,hp,c2]⟩,⟨[_]++([_]++[_]),(ahf _ _ _).trans (ahf _ _ _),(by simp),?_⟩,S3 (⟨a,d,dv,dead,3,A5,0,bH,bH,bL,own,A6,A,((y.b3:Int)+1),((y.b4:Int)+1),(now:Int),0,(now:Int),0,0,0⟩:MR) rfl rfl ⟨hx.a,hx.d,hx.wv,hx.NI,rfl,fun _=>⟨hX.c.symm,rfl,tr,uv,hX.f.symm,hc.own,hX.key.symm,?_,rfl,rfl,rfl,rfl,rfl,S5⟩⟩ (by simp [answers]) ?_ (congrArg (r++ ·) (vM hx (by omega) sub 4 7))⟩
  ·simp [answers,rings,nZ,leaves,lP,hX.c,hX.f,←hc.c]
  ·rw [hA];show F _ _ _ _ _=F X.c X.key m.own X.f i;rw [hX.c,hX.key,hX.f,←hc.own];congr 1;have h1:=hx.a;have h2:=hx.d;simp only at h1 h2;rw [h1,h2];simp only [fH];omega
  ·rw [←Bo hx hp sub 4 7];simp [answers,rings,hX.c,hX.f,←hc.own]
 ·rintro v hs ⟨rfl,rfl⟩;exact⟨_,rfl,rfl,rfl,⟨m,[⟨4,X.c,i,X.f,zK,0⟩],[],[]⟩,_,⟨⟨false,false,false,false,false,false,[],[],0⟩,ia cr cr,by simp [take,hX.k,hp,c2]⟩,⟨[],(agL _).symm,Nat.zero_le _,rfl⟩,Bn (⟨a,d,dv,dead,1,id,out,my,pa,pd,own,off,dM,((y.b3:Int)+1),((y.b4:Int)+1),aP,bF,since,heard,bO,bA⟩:MR) ⟨y.b3,y.b4,y.v0,y.cR,y.A9⟩ rfl rfl h4 hx hp (by rw [hX.c,hX.f];rfl) (agL _).symm⟩
theorem PN(b b1 i now:Nat)(_:i<4)(m:Mc LI)(hp:m.ph=1)(y:DX)(a d:Int)(dv:Nat→Int)(dead:Nat)(id:Nat→Int)(out my pa pd:Int)(own off dM:Nat→Int)(aP bF since heard bO bA:Int)
  (hx:Is i m (⟨a,d,dv,dead,1,id,out,my,pa,pd,own,off,dM,((y.b3:Int)+1),((y.b4:Int)+1),aP,bF,since,heard,bO,bA⟩:MR)) (o:List (Mg LI)) (e:List (Ev LI)) (r:List Rc) (hB:o.length≤800∧e.length≤800∧r.length≤800) (f0 f1:Int) (tr:0≤f0∧f0<2) (uv:0≤f1∧f1<2) (A5 A6:Nat→Int) (F:Nat→LI→LI→Nat→Nat→LI) (H:LI→LI) (X:Mg LI) (hX:Bq X 2 f0 f1 A5 A6) (Z2:m.c=X.c)
  (hF: ∀c k k' a d,yv (F c k k' a d)) (hH:KX H) (A:Nat→Int) (hA:aN A 0 32=F m.c m.own X.key i X.f) (pg:List Nat) (he:Bm i pg) (eJ:X.f ∉ pg) (o3:List (Mg LI)) (ho:o3=o++(⟨3,bD id,i,fH f0 f1,zK,0⟩::Cp.to zK 6 (bD id) i pg 0)) (L:List HP):
  ∃post,au agQ 117 [.pointer (some ⟨b1,0,none⟩),.pointer (some ⟨b,0,none⟩),.agg #[.int .u8 f0,.int .u8 f1],.int .u64 (now:Int)] [aZ b i now o3 e r,ao b1 true (.int .u8 a::(.int .u8 d::(agw (ak .u8 8 dv) (.pointer (some ⟨dead,0,none⟩)::(.int .u8 1::(agw (ak .u8 16 id) (.bool (!(out==0))::(.int .u8 my::(.int .u8 pa::(.int .u8 pd::(agw (ak .u8 32 own) (agw (ak .u8 32 off) (agw (ak .u8 32 A) ([.pointer (some ⟨y.b3,0,none⟩),.pointer (some ⟨y.b4,0,none⟩),.int .u64 aP,.int .u64 bF,.int .u64 since,.int .u64 heard,.int .u64 bO,.int .u32 bA])))))))))))))),Mm.bJ dead 256] post∧
  ∀x hs,post x hs→∃gj:Int,∃fV:Int,∃iM:Int,∃p7:HP,x= .tuple #[]∧hs=[p7,ao b1 true (.int .u8 a::(.int .u8 d::(agw (ak .u8 8 dv) (.pointer (some ⟨dead,0,none⟩)::(.int .u8 3::(agw (ak .u8 16 id) (.bool (!(out==0))::(.int .u8 my::(.int .u8 gj::(.int .u8 fV::(agw (ak .u8 32 own) (agw (ak .u8 32 off) (agw (ak .u8 32 A) ([.pointer (some ⟨y.b3,0,none⟩),.pointer (some ⟨y.b4,0,none⟩),.int .u64 aP,.int .u64 bF,.int .u64 iM,.int .u64 heard,.int .u64 bO,.int .u32 bA])))))))))))))),Mm.bJ dead 256]∧
  ∃post,au agQ 118 [.pointer (some ⟨y.b4,0,none⟩),.agg #[.int .u8 f0,.int .u8 f1]] [Mm.pw y.b4 4] post∧
  ∀x hs,post x hs→∃q0:Bool,x= .bool q0∧hs=[Mm.pw y.b4 4]∧
  aK (q0=true) (
   ∃post,au agQ 119 [.pointer (some ⟨b1,0,none⟩),.pointer (some ⟨b,0,none⟩),.int .u64 (now:Int)] [p7,ao b1 true (.int .u8 a::(.int .u8 d::(agw (ak .u8 8 dv) (.pointer (some ⟨dead,0,none⟩)::(.int .u8 3::(agw (ak .u8 16 id) (.bool (!(out==0))::(.int .u8 my::(.int .u8 gj::(.int .u8 fV::(agw (ak .u8 32 own) (agw (ak .u8 32 off) (agw (ak .u8 32 A) ([.pointer (some ⟨y.b3,0,none⟩),.pointer (some ⟨y.b4,0,none⟩),.int .u64 aP,.int .u64 bF,.int .u64 iM,.int .u64 heard,.int .u64 bO,.int .u32 bA])))))))))))))),Mm.bJ dead 256] post∧
   ∀x hs,post x hs→∃fm:Int,∃p8:HP,x= .tuple #[]∧hs=[p8,ao b1 true (.int .u8 a::(.int .u8 d::(agw (ak .u8 8 dv) (.pointer (some ⟨dead,0,none⟩)::(.int .u8 4::(agw (ak .u8 16 id) (.bool (!(out==0))::(.int .u8 my::(.int .u8 gj::(.int .u8 fV::(agw (ak .u8 32 own) (agw (ak .u8 32 off) (agw (ak .u8 32 A) ([.pointer (some ⟨y.b3,0,none⟩),.pointer (some ⟨y.b4,0,none⟩),.int .u64 aP,.int .u64 fm,.int .u64 fm,.int .u64 fm,.int .u64 fm,.int .u32 0])))))))))))))),Mm.bJ dead 256]∧
   (fun(rv:Value) (hs:List HP)=>rv= .tuple #[]∧∃s e',rD F H i m X now s∧Tl e e' s.e∧aB hs (Out b b1 i now o e' r s)) (.tuple #[]) (p8::ao b1 true (.int .u8 a::(.int .u8 d::(agw (ak .u8 8 dv) (.pointer (some ⟨dead,0,none⟩)::(.int .u8 4::(agw (ak .u8 16 id) (.bool (!(out==0))::(.int .u8 my::(.int .u8 gj::(.int .u8 fV::(agw (ak .u8 32 own) (agw (ak .u8 32 off) (agw (ak .u8 32 A) ([.pointer (some ⟨y.b3,0,none⟩),.pointer (some ⟨y.b4,0,none⟩),.int .u64 aP,.int .u64 fm,.int .u64 fm,.int .u64 fm,.int .u64 fm,.int .u32 0]))))))))))))))::Mm.bJ dead 256::L)) (
   (fun(rv:Value) (hs:List HP)=>rv= .tuple #[]∧∃s e',rD F H i m X now s∧Tl e e' s.e∧aB hs (Out b b1 i now o e' r s)) (.tuple #[]) (p7::ao b1 true (.int .u8 a::(.int .u8 d::(agw (ak .u8 8 dv) (.pointer (some ⟨dead,0,none⟩)::(.int .u8 3::(agw (ak .u8 16 id) (.bool (!(out==0))::(.int .u8 my::(.int .u8 gj::(.int .u8 fV::(agw (ak .u8 32 own) (agw (ak .u8 32 off) (agw (ak .u8 32 A) ([.pointer (some ⟨y.b3,0,none⟩),.pointer (some ⟨y.b4,0,none⟩),.int .u64 aP,.int .u64 bF,.int .u64 iM,.int .u64 heard,.int .u64 bO,.int .u32 bA]))))))))))))))::Mm.bJ dead 256::L)):=by
 have hc:=hx.call (by omega);have hfl:pg.filter (· ≠X.f)=pg:=List.filter_eq_self.2 fun j hj=>by simpa using fun e:j=X.f=>eJ (e▸hj)
 have hl:o3.length≤900:=by subst ho;simp [Cp.to];have:=he.2;omega
 have h1:=Cr b b1 i now (⟨a,d,dv,dead,1,id,out,my,pa,pd,own,off,A,((y.b3:Int)+1),((y.b4:Int)+1),aP,bF,since,heard,bO,bA⟩:MR) o3 e r (by omega) f0 f1 tr uv ⟨hx.a,hx.d,hc.ac⟩;have h2:=vK b b1 i now (⟨a,d,dv,dead,3,id,out,my,f0,f1,own,off,A,((y.b3:Int)+1),((y.b4:Int)+1),aP,bF,(now:Int),heard,bO,bA⟩:MR) o3 (e++[⟨3,bD id,fH f0 f1,zK,0⟩]) r (by simp;omega) tr uv ⟨hx.a,hx.d,hc.ac⟩ (H (aN A 0 32)) (hH b1 _ (by rw [hA];exact hF _ _ _ _ _));simp only [cD,fK]at h1 h2;have e1:bD id=m.c:=hc.c;have e2:fH f0 f1=X.f:=hX.f.symm;refine⟨_,h1,?_⟩;rintro v hs ⟨rfl,rfl⟩;refine⟨_,_,_,_,rfl,rfl,_,Mm.Jb y.b4 4 f0 f1,?_⟩;rintro v hs ⟨⟨q,rfl⟩,rfl⟩;refine⟨q,rfl,rfl,fun _=>⟨_,h2,?_⟩,fun _=>?_⟩
 ·rintro v hs ⟨rfl,rfl⟩;refine⟨_,_,rfl,rfl,rfl,⟨{m with ph:=4,dM:=F m.c m.own X.key i X.f,peer:=X.f,since:=now,heard:=now,bO:=now,bF:=now},(⟨3,m.c,i,X.f,zK,0⟩::Cp.to zK 6 m.c i pg 0),[⟨3,m.c,X.f,zK,0⟩,⟨4,m.c,X.f,H (F m.c m.own X.key i X.f),0⟩],[]⟩,_,⟨⟨false,true,false,false,true,false,[],pg,0⟩,ia cr he,by simp only [take,hX.k,Mc.has,hp,Z2,active,hfl];simp⟩,⟨[_]++[_],ahf _ _ _,(by simp),?_⟩,S3 (⟨a,d,dv,dead,4,id,out,my,f0,f1,own,off,A,((y.b3:Int)+1),((y.b4:Int)+1),aP,(now:Int),(now:Int),(now:Int),(now:Int),0⟩:MR) rfl rfl ⟨hx.a,hx.d,hx.wv,hx.NI,rfl,fun _=>⟨hc.c,hc.out,tr,uv,e2,hc.own,hc.off,hA,hc.aP,rfl,rfl,rfl,rfl,hc.ac⟩⟩ (by simp) (by rw [ho,e1,e2]) (agL _).symm⟩;simp [e1,e2,hA]
 ·refine⟨rfl,⟨{m with ph:=3,dM:=F m.c m.own X.key i X.f,peer:=X.f,since:=now},(⟨3,m.c,i,X.f,zK,0⟩::Cp.to zK 6 m.c i pg 0),[⟨3,m.c,X.f,zK,0⟩],[]⟩,_,⟨⟨false,false,false,false,true,false,[],pg,0⟩,ia cr he,by simp only [take,hX.k,Mc.has,hp,Z2,hfl];simp⟩,⟨[_],rfl,(by simp),?_⟩,S3 (⟨a,d,dv,dead,3,id,out,my,f0,f1,own,off,A,((y.b3:Int)+1),((y.b4:Int)+1),aP,bF,(now:Int),heard,bO,bA⟩:MR) rfl rfl ⟨hx.a,hx.d,hx.wv,hx.NI,rfl,fun _=>⟨hc.c,hc.out,tr,uv,e2,hc.own,hc.off,hA,hc.aP,rfl,hc.heard,hc.bO,hc.bF,hc.ac⟩⟩ (by simp) (by rw [ho,e1,e2]) (agL _).symm⟩;simp [e1,e2]
theorem gk(b b1 i now:Nat)(hi:i<4)(m:Mc LI)(x:MR)(hx:Is i m x)(hp:m.ph=1)(y:DX)(hy:MX m x y)(o:List (Mg LI))(e:List (Ev LI))(r:List Rc)(hB:o.length≤800∧e.length≤800∧r.length≤800)(f0 f1:Int)(tr:0≤f0∧f0<2)(uv:0≤f1∧f1<2)(bM bH bL bX bZ bS:Int)(A5 A6:Nat→Int)(F:Nat→LI→LI→Nat→Nat→LI)(H:LI→LI)(X:Mg LI)(hX:Bq X 2 f0 f1 A5 A6)(hM:zq F)(hF: ∀c k k' a d,yv (F c k k' a d))(hH:KX H)(hK:KM m)(hS:KS X):au agQ 88 [.pointer (some ⟨b1,0,none⟩),.pointer (some ⟨b,0,none⟩),.agg #[.int .u8 f0,.int .u8 f1],.agg (.int .u8 bM::(agw (ak .u8 16 A5) (.int .u8 bH::(.int .u8 bL::(.int .u8 bX::(agw (ak .u8 32 A6) ([.int .u32 bZ,.slice none 0 0,.int .u8 bS]))))))).toArray,.int .u64 (now:Int)] ([aZ b i now o e r,cD b1 x,Mm.bJ x.dead 256]++kH i y) (Does (rD F H i m X now) b b1 i now o e r):=by
 refine jh ?_;obtain⟨a,d,dv,dead,st,id,out,my,pa,pd,own,off,dM,lO,early,aP,bF,since,heard,bO,bA⟩:=x;have h1:st=1:=by have:=hx.st;rw [hp]at this;exact this
 obtain⟨h2,h3,h4⟩:=hy;simp only at h2 h3;subst h1 h2 h3;have hc:=hx.call (by omega);have fQ:(∀j,j<16→id j=A5 j)↔m.c=X.c:=(px hx (by omega) A5).trans (by rw [hX.c]);rw [G7 (m:=(⟨a,d,dv,dead,1,id,out,my,pa,pd,own,off,dM,((y.b3:Int)+1),((y.b4:Int)+1),aP,bF,since,heard,bO,bA⟩:MR)) rfl rfl];refine I4 _ a d 0 out my pa pd 0 0 aP bF since heard bO bA 0 0 0 0 0 f0 f1 (now:Int) bM bH bL bX bZ bS 0 (gQ i) y.cR dv id own off dM A5 A6 (fun _=>0) (fun _=>0) y.A9 y.v0 b b1 dead y.b3 y.b4 (Mm.bJ dead 256) (Mm.bJ dead 256) (Mm.pw y.b4 4) (aZ b i now o e r) ?_;unfold A_;intro b5 b6;refine⟨fun c1=>⟨_,cA b i now o e r (by omega) f0 f1 5 0 0 0 0 1 A5 (fun _=>0) tr uv (by decide),?_⟩,fun c1=>⟨_,Rg.gk y.b3 y.v0 (gQ i) y.cR 2 f0 f1 y.A9 uv.1 (by omega) (by decide),?_⟩⟩
 ·rintro v hs ⟨rfl,rfl⟩;exact⟨_,rfl,rfl,rfl,⟨m,[⟨5,X.c,i,X.f,zK,1⟩],[],[]⟩,_,⟨⟨false,false,false,false,false,false,[],[],0⟩,ia cr cr,by simp [take,hX.k,Mc.has,hp,(show¬m.c=X.c from fun h=>c1 (fQ.2 h))]⟩,⟨[],(agL _).symm,Nat.zero_le _,rfl⟩,Bn (⟨a,d,dv,dead,1,id,out,my,pa,pd,own,off,dM,((y.b3:Int)+1),((y.b4:Int)+1),aP,bF,since,heard,bO,bA⟩:MR) ⟨y.b3,y.b4,y.v0,y.cR,y.A9⟩ rfl rfl h4 hx hp (by rw [hX.c,hX.f];rfl) (agL _).symm⟩
 rintro v hs ⟨c,gq,rfl,rfl,han⟩;have c2:=fQ.1 (agN.1 c1);refine⟨c,gq,rfl,rfl,fun _=>⟨rfl,gG m,_,⟨⟨false,false,false,false,false,false,[],[],0⟩,ia cr cr,by simp [take,hX.k,Mc.has,hp,c2]⟩,⟨[],(agL _).symm,Nat.zero_le _,rfl⟩,Bn (⟨a,d,dv,dead,1,id,out,my,pa,pd,own,off,dM,((y.b3:Int)+1),((y.b4:Int)+1),aP,bF,since,heard,bO,bA⟩:MR) ⟨y.b3,y.b4,y.v0,gq,y.A9⟩ rfl rfl h4 hx hp (agL _).symm (agL _).symm⟩,fun WU=>?_⟩;have hx3:gq=f1:=(han.resolve_left fun h=>WU h.1).2.2;have FD: ∀g:Int,(g=0∨g=1)→¬g=gq→X.f≠fH (gQ i) g:=by
  intro g hg h1 h2;rw [hX.f,Jg tr uv rC (by omega)]at h2;exact h1 (by rw [hx3,h2.2])
 have Up:fH a d=i:=by
  have h1:=hx.a;have h2:=hx.d;simp only at h1 h2;rw [h1,h2];simp only [fH];omega
 refine⟨_,hM id own A6 a d f0 f1 (PL (by have:=hc.c;simp only at this;rw [this];exact hK.c (by omega))) (hc.own▸hK.own (by omega)) (hX.key▸hS.key) (by have:=hx.a;simp only at this;omega) (by have:=hx.d;simp only at this;omega) tr uv,?_⟩;rintro v hs ⟨A,rfl,rfl,hA⟩;rw [Up,show bD id=m.c from hc.c,show aN own 0 32=m.own from hc.own,←hX.key,←hX.f]at hA;refine⟨A,rfl,rfl,_,cA b i now o e r (by omega) f0 f1 3 0 0 0 0 0 id (fun _=>0) tr uv (by decide),?_⟩;rintro v hs ⟨rfl,rfl⟩;refine⟨_,rfl,rfl,?_⟩;intro b7 b8 b9 jI lV D12 SN SO;have tail:=PN b b1 i now hi m hp y a d dv dead id out my pa pd own off dM aP bF since heard bO bA hx o e r hB f0 f1 tr uv A5 A6 F H X hX c2 hF hH A hA;have qG: ∀l,(∀j∈l,j=fH (gQ i) 0∨j=fH (gQ i) 1)→l.length≤2→Bm i l:=fun l h1 h2=>⟨sy hi h1,h2⟩
 refine⟨fun g0=>fun zo=>⟨_,cA b i now _ e r (by simp;omega) (gQ i) 0 6 0 0 0 0 0 id (fun _=>0) rC (by decide) (by decide),?_⟩,fun _=>⟨fun g1=>fun zo=>⟨_,cA b i now _ e r (by simp;omega) (gQ i) 1 6 0 0 0 0 0 id (fun _=>0) rC (by decide) (by decide),?_⟩,fun _=>?_⟩⟩
 ·rintro v hs ⟨rfl,rfl⟩;refine⟨_,rfl,rfl,fun g1=>fun EL=>⟨_,cA b i now _ e r (by simp;omega) (gQ i) 1 6 0 0 0 0 0 id (fun _=>0) rC (by decide) (by decide),?_⟩,fun _=>?_⟩
  ·rintro v hs ⟨rfl,rfl⟩;exact⟨_,rfl,rfl,tail [fH (gQ i) 0,fH (gQ i) 1] (qG _ (by simp) (by simp)) (by simp [FD 0 (.inl rfl) g0.1,FD 1 (.inr rfl) g1.1]) _ (by simp [Cp.to,zK,fH]) _⟩
  ·exact tail [fH (gQ i) 0] (qG _ (by simp) (by simp)) (by simp [FD 0 (.inl rfl) g0.1]) _ (by simp [Cp.to,zK,fH]) _
 ·rintro v hs ⟨rfl,rfl⟩;exact⟨_,rfl,rfl,tail [fH (gQ i) 1] (qG _ (by simp) (by simp)) (by simp [FD 1 (.inr rfl) g1.1]) _ (by simp [Cp.to,zK,fH]) _⟩
 ·exact tail [] (qG _ (by simp) (by simp)) (by simp) _ (by simp [Cp.to,zK,fH]) _
end Go.RX.Cz
