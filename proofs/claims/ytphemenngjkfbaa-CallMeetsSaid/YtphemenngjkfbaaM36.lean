/- bytes.Compare. -/
import Derived.ProofKit
import Derived.Lib.Walk
import Derived.Lib.BytesEntry
import Derived.Test.YtphemenngjkfbaaM35
open Decidable renaming not_not → ad5
open Go.Lib renaming bytesOf → aer
open Go.Proofs.Try renaming prog → adY
open Go.Sem renaming run_bind → adV, run_pure → aeb
open List renaming append → adH, append_nil → adW, getElem?_append_left → adO, getElem?_append_right → adQ, getElem?_eq_some_iff → adJ
namespace Go.RX.Cb
open Go.RX Go.Proofs Go.RowKit
theorem u5{P:Program}(w:World)(b1 o1 c1 b2 o2 c2 n:Nat)(xs ys:List Int)(hx:xs.length=n)(hy:ys.length=n)(h1: ∀i,i<n→w.cell? ⟨b1,o1+i,none⟩=some (.int .u8 (xs.getD i 0)))
  (h2: ∀i,i<n→w.cell? ⟨b2,o2+i,none⟩=some (.int .u8 (ys.getD i 0))):
  (Extern.BytealgCompare.compare #[.slice (some ⟨b1,o1,none⟩) n c1,.slice (some ⟨b2,o2,none⟩) n c2]).run P w= .ok (.int .i64 (Lib.compareBytes (aer xs) (aer ys))) w:=by
 have load: ∀(b o:Nat) (zs:List Int),zs.length=n→(∀i,i<n→w.cell? ⟨b,o+i,none⟩=some (.int .u8 (zs.getD i 0)))→(Extern.Bytes.loadBytes ⟨b,o,none⟩ n .empty).run P w= .ok ⟨(aer zs).toArray⟩ w:=by
  intro b o zs hl hc;have h:=Lib.run_loadBytesX (P:=P) w zs ⟨b,o,none⟩ .empty (fun j x hj=>by
   have Ud:j<zs.length:=(adJ.1 hj).1;have e:(⟨b,o,none⟩:Addr).add j=⟨b,o+j,none⟩:=by unfold Addr.add;split<;>simp_all
   rw [e,hc j (by omega),List.getD_eq_getElem?_getD,hj];rfl)
  rw [hl]at h;have he:(⟨ByteArray.empty.data++(aer zs).toArray⟩:ByteArray)=⟨(aer zs).toArray⟩:=by
   apply ByteArray.ext;show(#[]:Array UInt8)++(aer zs).toArray=(aer zs).toArray;simp
  rw [he]at h;exact h
 change Sem.run P (do pure (goInt (Extern.BytealgCompare.cmp (←Extern.Bytes.bytesOf (.slice (some ⟨b1,o1,none⟩) n c1)) (←Extern.Bytes.bytesOf (.slice (some ⟨b2,o2,none⟩) n c2))))) w=_
 simp only [Extern.Bytes.bytesOf,adV,aeb,load b1 o1 xs hx h1,load b2 o2 ys hy h2,Result.andThen];rw [Lib.cmp_eq];rfl
set_option maxRecDepth 100000 in
set_option maxHeartbeats 1000000 in
theorem AA(w:World)(b1 o1 c1 b2 o2 c2 n:Nat)(xs ys:List Int)(hx:xs.length=n)(hy:ys.length=n)(h1: ∀i,i<n→w.cell? ⟨b1,o1+i,none⟩=some (.int .u8 (xs.getD i 0)))
  (h2: ∀i,i<n→w.cell? ⟨b2,o2+i,none⟩=some (.int .u8 (ys.getD i 0))):
  Calls adY 116 #[.slice (some ⟨b1,o1,none⟩) n c1,.slice (some ⟨b2,o2,none⟩) n c2] w fun e w'=>e= .returned (.int .i64 (Lib.compareBytes (aer xs) (aer ys)))∧w'=w:=by
 have H:=u5 (P:=adY) w b1 o1 c1 b2 o2 c2 n xs ys hx hy h1 h2;clear hx hy h1 h2
 go_enter Try.func116,Try.ntmps116
 go_wp2
 rw [run_callFunc_extern Try.func136 (by kernel_rfl) (by kernel_rfl) (by kernel_rfl) (e:=Extern.BytealgCompare.compare) (by kernel_rfl),H];simp only [Result.andThen];rw [Oper.upon_value]
 go_wp2
 go_ret
 exact⟨rfl,rfl⟩
theorem EU{w:World}{b o:Nat}{cs:List Value}{ty:TypeId}{fz:Nat×Nat}{v:Value}(h:w.heap[b]? =some (.cells cs.toArray ty fz))(hv:cs[o]? =some v):w.cell? ⟨b,o,none⟩=some v:=by
 simp [World.cell?,h,hv]
theorem AB(b1 o1 b2 o2 n:Nat)(w1 w2:Bool)(Xx Xy:List Value)(xs ys:List Int)(hx:xs.length=n)(hy:ys.length=n)(h1: ∀i,i<n→Xx[o1+i]? =some (.int .u8 (xs.getD i 0)))(h2: ∀i,i<n→Xy[o2+i]? =some (.int .u8 (ys.getD i 0))):
  aq adY 116 [.slice (some ⟨b1,o1,none⟩) n n,.slice (some ⟨b2,o2,none⟩) n n] [ak b1 w1 Xx,ak b2 w2 Xy]
   (fun r hs=>r= .int .i64 (Lib.compareBytes (aer xs) (aer ys))∧hs=[ak b1 w1 Xx,ak b2 w2 Xy]):=by
 intro w Fs cE;obtain⟨S,hS⟩:=cE;obtain⟨_,ty1,fz1,g1,_⟩:=(hS.at_ 0 (ak b1 w1 Xx) rfl).1;obtain⟨_,ty2,fz2,g2,_⟩:=(hS.at_ 1 (ak b2 w2 Xy) rfl).1;refine(AA w b1 o1 n b2 o2 n n xs ys hx hy (fun i hi=>EU g1 (h1 i hi)) (fun i hi=>EU g2 (h2 i hi))).mono ?_;rintro e w' ⟨rfl,rfl⟩;exact⟨_,_,rfl,⟨rfl,rfl⟩,⟨S,hS⟩,fQ.refl w'⟩
end Go.RX.Cb

namespace Go.RX.Cz
open Go.RX Go.Proofs Go.Cp Go.RX.Cs Go.RX.Ct Go.RX.Cu Go.RX.Cv Go.RX.Cw Go.RX.Cx Go.RX.Cy
set_option maxRecDepth 100000
abbrev QB(b:Nat)(m:MR)(b3 b4:Nat):HP:=ak b true (.int .u8 m.a::(.int .u8 m.d::(adH (al .u8 8 m.dv) (.pointer (some ⟨m.dead,0,none⟩)::(.int .u8 m.st::(adH (al .u8 16 m.id) (.bool (!(m.out==0))::(.int .u8 m.ac::(.int .u8 m.pa::(.int .u8 m.pd::(adH (al .u8 32 m.own) (adH (al .u8 32 m.off) (adH (al .u8 32 m.dg) ([.pointer (some ⟨b3,0,none⟩),.pointer (some ⟨b4,0,none⟩),.int .u64 m.aK,.int .u64 m.cf,.int .u64 m.since,.int .u64 m.heard,.int .u64 m.bD,.int .u32 m.bq]))))))))))))))
theorem EV{b:Nat}{m:MR}{b3 b4:Nat}(h:m.h_=(b3:Int)+1)(h':m.early=(b4:Int)+1):cn b m=QB b m b3 b4:=by
 simp only [cn,h,h',fj]
abbrev zf(i:Nat)(l:List Nat):Prop:=(∀j∈l,j∈others i)∧l.length≤2
theorem sI{i:Nat}:0≤k9 i∧k9 i<2:=by unfold k9;omega
theorem qW{i:Nat}(hi:i<4){l:List Nat}(h: ∀j∈l,j=eh (k9 i) 0∨j=eh (k9 i) 1): ∀j∈l,j∈others i:=by
 intro j hj;have:=h j hj;simp only [eh,k9,others,List.mem_cons,List.not_mem_nil,or_false]at this ⊢;omega
theorem IQ{k:IntKind}{n j:Nat}{A:Nat→Int}{l:List Value}(h:j<n):(adH (al k n A) l)[j]? =some (.int k (A j)):=by
 have hl:(al k n A).length=n:=by simp [al]
 show(al k n A++l)[j]? =_;rw [adO (by omega)];simp [al,h]
theorem NC{k:IntKind}{n j:Nat}{A:Nat→Int}{l:List Value}(h:n≤j):(adH (al k n A) l)[j]? =l[j - n]? :=by
 have hl:(al k n A).length=n:=by simp [al]
 show(al k n A++l)[j]? =_;rw [adQ (by omega),hl]
theorem mU{A:Nat→Int}{n j:Nat}(h:j<n):(aJ A 0 n).getD j 0=A j:=by simp [aJ,h]
theorem ND{A:Nat→Int}(h:Tk (a_ A)):wa (aJ A 0 16):=by
 obtain⟨l,h1,h2,h3⟩:=h
 rwa [←ln (by rw [h1,f_]) h3]
section
variable {b b1 i now:Nat} {o:List (Mg LI)} {r:List (Nat×Nat)} {o':List (Mg LI)} {e':List (Ev LI)} {r':List (Nat×Nat)} {s:Rs LI} {l:List HP}
theorem QC(x:MR){b3 b4:Nat}(hf:x.h_=(b3:Int)+1)(D0:x.early=(b4:Int)+1)(h:Is i s.m x)(hp:s.m.ph≠1)(ho:o'=o++s.o)(hr:r'=r++s.r):
  aD (aY b i now o' e' r'::QB b1 x b3 b4::Mm.bB x.dead 256::l) (Out b b1 i now o e' r s):=by
 rw [←EV hf D0];exact dJ h hp ho hr
theorem zg(x:MR)(z:DX)(hf:x.h_=(z.b3:Int)+1)(D0:x.early=(z.b4:Int)+1)(h:Is i s.m x)(hp:s.m.ph=1)(ho:o'=o++s.o)(hr:r'=r++s.r):
  aD (aY b i now o' e' r'::QB b1 x z.b3 z.b4::Mm.bB x.dead 256::(jF i z++l)) (Out b b1 i now o e' r s):=by
 rw [←EV hf D0];exact Nx z h hp ⟨hf,D0⟩ ho hr
end
abbrev NF(i:Nat)(m:Mc LI)(s:Rs LI):Prop:=s=gY m∨∃sub,zf i sub∧s=leaves zK i m sub
theorem zh{i:Nat}{m:Mc LI}{x:MR}(hx:Is i m x)(hp:m.ph=1)(sub:List Nat):Cp.to zK 5 (a_ x.id) i sub=(leaves zK i m sub).o:=by
 rw [(hx.call (by omega)).c];simp [leaves,hp]
theorem tT{i:Nat}{m:Mc LI}{x:MR}(hx:Is i m x)(hp:m.ph≠0)(sub:List Nat):[(a_ x.id,x.aK.toNat)]=(leaves zK i m sub).r:=by
 rw [(hx.call hp).c,(hx.call hp).aK];rfl
abbrev ql(F:Nat→LI→LI→Nat→Nat→LI)(H:LI→LI)(i:Nat)(m:Mc LI)(X:Mg LI)(now:Nat)(s:Rs LI):Prop:= ∃q:Or,q.Ok i∧s=take zK F H i m X now q
structure zi (X:Mg LI) (k:Nat) (f0 f1:Int) (A5 A6:Nat→Int):Prop where
 k:X.k=k
 c:X.c=a_ A5
 f:X.f=eh f0 f1
 key:X.key=aJ A6 0 32
theorem gF{i:Nat}{q1 q2 q3 q4 q5 q6:Bool}{sub xB:List Nat}(h1:zf i sub)(h2:zf i xB):(⟨q1,q2,q3,q4,q5,q6,sub,xB⟩:Or).Ok i:=⟨h1.1,h1.2,h2.1,h2.2⟩
theorem bZ{i:Nat}:zf i []:=⟨fun _ h=>(nomatch h),Nat.zero_le _⟩
abbrev xD(F:Nat→LI→LI→Nat→Nat→LI):Prop:= ∀(I O N:Nat→Int) (a d a' d':Int),wa (aJ I 0 16)→wa (aJ O 0 32)→wa (aJ N 0 32)→(0≤a∧a<2)→(0≤d∧d<2)→(0≤a'∧a'<2)→(0≤d'∧d'<2)→
 aq adY 44 [.agg (adH (al .u8 16 I) ([])).toArray,.agg (adH (al .u8 32 O) ([])).toArray,.agg (adH (al .u8 32 N) ([])).toArray,.agg #[.int .u8 a,.int .u8 d],.agg #[.int .u8 a',.int .u8 d']] [] fun rv hs=> ∃A:Nat→Int,rv= .agg (adH (al .u8 32 A) ([])).toArray∧hs=[]∧aJ A 0 32=F (a_ I) (aJ O 0 32) (aJ N 0 32) (eh a d) (eh a' d')
abbrev IS(H:LI→LI):Prop:= ∀(b1:Nat) (m:MR),wa (aJ m.dg 0 32)→VE b1 m (H (aJ m.dg 0 32))
structure KM (m:Mc LI):Prop where
 c:m.ph≠0→Tk m.c
 own:m.ph≠0→wa m.own
 off:m.ph≠0→wa m.off
 dg:m.ph≠0→wa m.dg
structure KS (X:Mg LI):Prop where
 c:Tk X.c
 key:wa X.key
theorem wg(b b1 i now:Nat)(hi:i<4)(m:Mc LI)(x:MR)(hx:Is i m x)(hp:m.ph=1)(y:DX)(hy:x.h_=(y.b3:Int)+1∧x.early=(y.b4:Int)+1)(o:List (Mg LI))(e:List (Ev LI))(r:List (Nat×Nat))(hB:o.length≤800∧e.length≤800∧r.length≤800)(f0 f1:Int)(_:0≤f0∧f0<2)(sZ:0≤f1∧f1<2)(how:Int):aq adY 90 [.pointer (some ⟨b1,0,none⟩),.pointer (some ⟨b,0,none⟩),.agg #[.int .u8 f0,.int .u8 f1],.int .u8 how,.int .u64 (now:Int)] ([aY b i now o e r,cn b1 x,Mm.bB x.dead 256]++jF i y) (tS (NF i m) b b1 i now o e r):=by
 refine iB ?_;obtain⟨a,d,dv,dead,st,id,out,kO,pa,pd,own,off,dg,h_,early,aK,cf,since,heard,bD,bq⟩:=x;have h1:st=1:=by have:=hx.st;rw [hp]at this;exact this
 obtain⟨h2,h3⟩:=hy;simp only at h2 h3;subst h1 h2 h3;have hc:=hx.call (by omega);rw [EV (m:=(⟨a,d,dv,dead,1,id,out,kO,pa,pd,own,off,dg,((y.b3:Int)+1),((y.b4:Int)+1),aK,cf,since,heard,bD,bq⟩:MR)) rfl rfl];refine Ky _ a d 0 out kO pa pd 0 0 aK cf since heard bD bq 0 0 0 0 0 f0 f1 (now:Int) 0 0 0 0 0 0 how (k9 i) y.cQ dv id own off dg (fun _=>0) (fun _=>0) (fun _=>0) (fun _=>0) y.A9 y.v0 b b1 dead y.b3 y.b4 (Mm.bB dead 256) (Mm.bB dead 256) (Mm.nZ y.b4 4) (aY b i now o e r) ?_;unfold Be;intro b5;refine⟨_,Rg.Hc y.b3 y.v0 (k9 i) y.cQ 2 f0 f1 how y.A9 sZ.1 (by omega) (by decide),?_⟩;rintro v hs ⟨c,A9,rfl,rfl, -⟩;refine⟨c,A9,rfl,rfl,_,Rg.Hd y.b3 y.v0 (k9 i) y.cQ 2 A9 (by decide) (by decide),?_⟩;rintro v hs ⟨oc,q,rfl,rfl, -⟩;refine⟨oc,q,rfl,rfl,fun _=>?_,fun _=>?_⟩
 ·exact⟨rfl,gY m,e,.inl rfl,⟨[],(adW _).symm,Nat.zero_le _,rfl⟩,zg (⟨a,d,dv,dead,1,id,out,kO,pa,pd,own,off,dg,((y.b3:Int)+1),((y.b4:Int)+1),aK,cf,since,heard,bD,bq⟩:MR) ⟨y.b3,y.b4,y.v0,y.cQ,A9⟩ rfl rfl hx hp (by simp [gY]) (by simp [gY])⟩
 ·have hl:=ny b b1 i now (⟨a,d,dv,dead,1,id,out,kO,pa,pd,own,off,dg,((y.b3:Int)+1),((y.b4:Int)+1),aK,cf,since,heard,bD,bq⟩:MR) o e r (by omega) y.b3 y.b4 y.v0 (k9 i) y.cQ A9 (Mm.nZ y.b4 4) sI rfl rfl rfl (hc.aK▸Int.natCast_nonneg _) 2 oc;simp only [cn,fj]at hl;refine⟨_,hl,?_⟩;rintro v hs ⟨rfl,o',sub,rfl,je,tL,rfl⟩;exact⟨_,rfl,rfl,rfl,leaves zK i m sub,_,.inr ⟨sub,⟨qW hi je,tL⟩,rfl⟩,⟨[_],rfl,(by simp),rfl⟩,QC (⟨a,d,dv,dead,0,id,out,kO,pa,pd,own,off,dg,((y.b3:Int)+1),((y.b4:Int)+1),aK,cf,since,heard,bD,bq⟩:MR) rfl rfl hx.idle (by simp [leaves]) (congrArg (o++ ·) (zh hx hp sub)) (congrArg (r++ ·) (tT hx (by omega) sub))⟩
theorem sJ(b b1 i now:Nat)(_:i<4)(m:Mc LI)(x:MR)(hx:Is i m x)(hp:m.ph=1)(y:DX)(hy:x.h_=(y.b3:Int)+1∧x.early=(y.b4:Int)+1)(o:List (Mg LI))(e:List (Ev LI))(r:List (Nat×Nat))(hB:o.length≤800∧e.length≤800∧r.length≤800)(f0 f1:Int)(sH:0≤f0∧f0<2)(sZ:0≤f1∧f1<2)(bF bA bG bO bQ bN:Int)(A5 A6:Nat→Int)(F:Nat→LI→LI→Nat→Nat→LI)(H:LI→LI)(X:Mg LI)(hX:zi X 3 f0 f1 A5 A6):aq adY 89 [.pointer (some ⟨b1,0,none⟩),.pointer (some ⟨b,0,none⟩),.agg #[.int .u8 f0,.int .u8 f1],.agg (.int .u8 bF::(adH (al .u8 16 A5) (.int .u8 bA::(.int .u8 bG::(.int .u8 bO::(adH (al .u8 32 A6) ([.int .u32 bQ,.slice none 0 0,.int .u8 bN]))))))).toArray,.int .u64 (now:Int)] ([aY b i now o e r,cn b1 x,Mm.bB x.dead 256]++jF i y) (tS (ql F H i m X now) b b1 i now o e r):=by
 refine iB ?_;obtain⟨a,d,dv,dead,st,id,out,kO,pa,pd,own,off,dg,h_,early,aK,cf,since,heard,bD,bq⟩:=x;have h1:st=1:=by have:=hx.st;rw [hp]at this;exact this
 obtain⟨h2,h3⟩:=hy;simp only at h2 h3;subst h1 h2 h3;have hc:=hx.call (by omega);have jq:(∀j,j<16→id j=A5 j)↔m.c=X.c:=(n8 hx (by omega) A5).trans (by rw [hX.c]);rw [EV (m:=(⟨a,d,dv,dead,1,id,out,kO,pa,pd,own,off,dg,((y.b3:Int)+1),((y.b4:Int)+1),aK,cf,since,heard,bD,bq⟩:MR)) rfl rfl];refine Av _ a d 0 out kO pa pd 0 0 aK cf since heard bD bq 0 0 0 0 0 f0 f1 (now:Int) bF bA bG bO bQ bN 0 (k9 i) y.cQ dv id own off dg A5 A6 (fun _=>0) (fun _=>0) y.A9 y.v0 b b1 dead y.b3 y.b4 (Mm.bB dead 256) (Mm.bB dead 256) (Mm.nZ y.b4 4) (aY b i now o e r) ?_;unfold rK;intro b5 b6;refine⟨fun c1=>⟨_,cd b i now o e r (by omega) f0 f1 5 0 0 0 0 1 A5 (fun _=>0) sH sZ (by decide),?_⟩,fun c1=>⟨_,Mm.EJ y.b4 4 f0 f1 (by decide) (by decide),?_⟩⟩
 ·rintro v hs ⟨rfl,rfl⟩;exact⟨_,rfl,rfl,rfl,⟨m,[⟨5,X.c,i,X.f,zK⟩],[],[]⟩,_,⟨⟨false,false,false,false,false,false,[],[]⟩,gF bZ bZ,by simp [take,hX.k,Mc.has,hp,(show¬m.c=X.c from fun h=>c1 (jq.2 h))]⟩,⟨[],(adW _).symm,Nat.zero_le _,rfl⟩,zg (⟨a,d,dv,dead,1,id,out,kO,pa,pd,own,off,dg,((y.b3:Int)+1),((y.b4:Int)+1),aK,cf,since,heard,bD,bq⟩:MR) ⟨y.b3,y.b4,y.v0,y.cQ,y.A9⟩ rfl rfl hx hp (by rw [hX.c,hX.f];rfl) (adW _).symm⟩
 ·rintro v hs ⟨rfl,rfl⟩;exact⟨rfl,rfl,rfl,gY m,_,⟨⟨false,false,false,false,false,false,[],[]⟩,gF bZ bZ,by simp [take,hX.k,Mc.has,hp,jq.1 (ad5.1 c1)]⟩,⟨[],(adW _).symm,Nat.zero_le _,rfl⟩,zg (⟨a,d,dv,dead,1,id,out,kO,pa,pd,own,off,dg,((y.b3:Int)+1),((y.b4:Int)+1),aK,cf,since,heard,bD,bq⟩:MR) ⟨y.b3,y.b4,y.v0,y.cQ,y.A9⟩ rfl rfl hx hp (adW _).symm (adW _).symm⟩
theorem sK(b b1 i now:Nat)(hi:i<4)(m:Mc LI)(x:MR)(hx:Is i m x)(hp:m.ph=1)(y:DX)(hy:x.h_=(y.b3:Int)+1∧x.early=(y.b4:Int)+1)(o:List (Mg LI))(e:List (Ev LI))(r:List (Nat×Nat))(hB:o.length≤800∧e.length≤800∧r.length≤800)(f0 f1:Int)(sH:0≤f0∧f0<2)(sZ:0≤f1∧f1<2)(bF bA bG bO bQ bN:Int)(A5 A6:Nat→Int)(F:Nat→LI→LI→Nat→Nat→LI)(H:LI→LI)(X:Mg LI)(hX:zi X 5 f0 f1 A5 A6):aq adY 91 [.pointer (some ⟨b1,0,none⟩),.pointer (some ⟨b,0,none⟩),.agg #[.int .u8 f0,.int .u8 f1],.agg (.int .u8 bF::(adH (al .u8 16 A5) (.int .u8 bA::(.int .u8 bG::(.int .u8 bO::(adH (al .u8 32 A6) ([.int .u32 bQ,.slice none 0 0,.int .u8 bN]))))))).toArray,.int .u64 (now:Int)] ([aY b i now o e r,cn b1 x,Mm.bB x.dead 256]++jF i y) (tS (ql F H i m X now) b b1 i now o e r):=by
 refine iB ?_;obtain⟨a,d,dv,dead,st,id,out,kO,pa,pd,own,off,dg,h_,early,aK,cf,since,heard,bD,bq⟩:=x;have h1:st=1:=by have:=hx.st;rw [hp]at this;exact this
 obtain⟨h2,h3⟩:=hy;simp only at h2 h3;subst h1 h2 h3;have hc:=hx.call (by omega);have jq:(∀j,j<16→id j=A5 j)↔m.c=X.c:=(n8 hx (by omega) A5).trans (by rw [hX.c]);have hm:=fun how=>wg b b1 i now hi m (⟨a,d,dv,dead,1,id,out,kO,pa,pd,own,off,dg,((y.b3:Int)+1),((y.b4:Int)+1),aK,cf,since,heard,bD,bq⟩:MR) hx hp y ⟨rfl,rfl⟩ o e r hB f0 f1 sH sZ how
 simp only [cn,fj]at hm;rw [EV (m:=(⟨a,d,dv,dead,1,id,out,kO,pa,pd,own,off,dg,((y.b3:Int)+1),((y.b4:Int)+1),aK,cf,since,heard,bD,bq⟩:MR)) rfl rfl];refine M_ _ a d 0 out kO pa pd 0 0 aK cf since heard bD bq 0 0 0 0 0 f0 f1 (now:Int) bF bA bG bO bQ bN 0 (k9 i) y.cQ dv id own off dg A5 A6 (fun _=>0) (fun _=>0) y.A9 y.v0 b b1 dead y.b3 y.b4 (Mm.bB dead 256) (Mm.bB dead 256) (Mm.nZ y.b4 4) (aY b i now o e r) ?_;unfold Ew;intro b5 b6;refine⟨fun c1=>⟨_,Mm.mT dead 256 A5 (by decide) (by decide),?_⟩,fun c1=>⟨fun _=>⟨_,hm 3,?_⟩,fun _=>⟨_,hm 4,?_⟩⟩⟩
 ·rintro v hs ⟨rfl,rfl⟩;exact⟨rfl,rfl,rfl,gY m,_,⟨⟨false,false,false,false,false,false,[],[]⟩,gF bZ bZ,by simp [take,hX.k,Mc.has,hp,(show¬m.c=X.c from fun h=>c1 (jq.2 h))]⟩,⟨[],(adW _).symm,Nat.zero_le _,rfl⟩,zg (⟨a,d,dv,dead,1,id,out,kO,pa,pd,own,off,dg,((y.b3:Int)+1),((y.b4:Int)+1),aK,cf,since,heard,bD,bq⟩:MR) ⟨y.b3,y.b4,y.v0,y.cQ,y.A9⟩ rfl rfl hx hp (adW _).symm (adW _).symm⟩
 all_goals
  have c2:=jq.1 (ad5.1 c1);rintro v hs ⟨rfl,s,e',hQ | ⟨sub,h1,hQ⟩,hT,rfl⟩
  ·exact⟨_,_,rfl,rfl,rfl,s,e',⟨⟨false,false,false,false,false,false,[],[]⟩,gF bZ bZ,by simp [take,hX.k,Mc.has,hp,c2,hQ]⟩,hT,aD.sub (List.sublist_append_left [_,_] _)⟩
  ·exact⟨_,_,rfl,rfl,rfl,s,e',⟨⟨false,false,false,true,false,false,sub,[]⟩,gF h1 bZ,by simp [take,hX.k,Mc.has,hp,c2,hQ]⟩,hT,aD.sub (List.sublist_append_left [_,_] _)⟩
theorem QD(b1 b6:Nat)(A A5 A6 dv own off dg:Nat→Int)(bF bA bG bO bQ bN a d st out kO pa pd aK cf since heard bD bq:Int)(dead:Nat)(v3 v4:Value):
  aq adY 116 [.slice (some ⟨b6,1,none⟩) 16 16,.slice (some ⟨b1,12,none⟩) 16 16] [ak b6 true (.int .u8 bF::(adH (al .u8 16 A5) (.int .u8 bA::(.int .u8 bG::(.int .u8 bO::(adH (al .u8 32 A6) ([.int .u32 bQ,.slice none 0 0,.int .u8 bN]))))))),ak b1 true (.int .u8 a::(.int .u8 d::(adH (al .u8 8 dv) (.pointer (some ⟨dead,0,none⟩)::(.int .u8 st::(adH (al .u8 16 A) (.bool (!(out==0))::(.int .u8 kO::(.int .u8 pa::(.int .u8 pd::(adH (al .u8 32 own) (adH (al .u8 32 off) (adH (al .u8 32 dg) ([v3,v4,.int .u64 aK,.int .u64 cf,.int .u64 since,.int .u64 heard,.int .u64 bD,.int .u32 bq]))))))))))))))]
   fun rv hs=>(∃k:Int,rv= .int .i64 k)∧hs=[ak b6 true (.int .u8 bF::(adH (al .u8 16 A5) (.int .u8 bA::(.int .u8 bG::(.int .u8 bO::(adH (al .u8 32 A6) ([.int .u32 bQ,.slice none 0 0,.int .u8 bN]))))))),ak b1 true (.int .u8 a::(.int .u8 d::(adH (al .u8 8 dv) (.pointer (some ⟨dead,0,none⟩)::(.int .u8 st::(adH (al .u8 16 A) (.bool (!(out==0))::(.int .u8 kO::(.int .u8 pa::(.int .u8 pd::(adH (al .u8 32 own) (adH (al .u8 32 off) (adH (al .u8 32 dg) ([v3,v4,.int .u64 aK,.int .u64 cf,.int .u64 since,.int .u64 heard,.int .u64 bD,.int .u32 bq]))))))))))))))]:=by
 refine aq.post (Cb.AB b6 1 b1 12 16 true true _ _ (aJ A5 0 16) (aJ A 0 16) (f_ _ _ _) (f_ _ _ _) (fun j hj=>?_) fun j hj=>?_) fun rv hs ⟨h1,h2⟩=>⟨_,aD.refl _,⟨_,h1⟩,h2⟩
 ·rw [mU hj,Nat.add_comm,List.getElem?_cons_succ,IQ hj]
 ·rw [mU hj,show 12+j=(j+10)+1+1 by omega,List.getElem?_cons_succ,List.getElem?_cons_succ,NC (by omega),show j+10 - 8=j+1+1 by omega,List.getElem?_cons_succ,List.getElem?_cons_succ,IQ hj]
theorem qm(b b1 i now:Nat)(hi:i<4)(m:Mc LI)(x:MR)(hx:Is i m x)(hp:m.ph=1)(y:DX)(hy:x.h_=(y.b3:Int)+1∧x.early=(y.b4:Int)+1)(o:List (Mg LI))(e:List (Ev LI))(r:List (Nat×Nat))(hB:o.length≤800∧e.length≤800∧r.length≤800)(f0 f1:Int)(sH:0≤f0∧f0<2)(sZ:0≤f1∧f1<2)(bF bA bG bO bQ bN:Int)(A5 A6:Nat→Int)(F:Nat→LI→LI→Nat→Nat→LI)(H:LI→LI)(X:Mg LI)(hX:zi X 1 f0 f1 A5 A6)(hM:xD F)(hK:KM m)(hS:KS X):aq adY 87 [.pointer (some ⟨b1,0,none⟩),.pointer (some ⟨b,0,none⟩),.agg #[.int .u8 f0,.int .u8 f1],.agg (.int .u8 bF::(adH (al .u8 16 A5) (.int .u8 bA::(.int .u8 bG::(.int .u8 bO::(adH (al .u8 32 A6) ([.int .u32 bQ,.slice none 0 0,.int .u8 bN]))))))).toArray,.int .u64 (now:Int)] ([aY b i now o e r,cn b1 x,Mm.bB x.dead 256]++jF i y) (tS (ql F H i m X now) b b1 i now o e r):=by
 refine iB ?_;obtain⟨a,d,dv,dead,st,id,out,kO,pa,pd,own,off,dg,h_,early,aK,cf,since,heard,bD,bq⟩:=x;have h1:st=1:=by have:=hx.st;rw [hp]at this;exact this
 obtain⟨h2,h3⟩:=hy;simp only at h2 h3;subst h1 h2 h3;have hc:=hx.call (by omega);have jq:(∀j,j<16→id j=A5 j)↔m.c=X.c:=(n8 hx (by omega) A5).trans (by rw [hX.c]);rw [EV (m:=(⟨a,d,dv,dead,1,id,out,kO,pa,pd,own,off,dg,((y.b3:Int)+1),((y.b4:Int)+1),aK,cf,since,heard,bD,bq⟩:MR)) rfl rfl];refine Kx _ a d 0 out kO pa pd 0 0 aK cf since heard bD bq 0 0 0 0 0 f0 f1 (now:Int) bF bA bG bO bQ bN 0 (k9 i) y.cQ dv id own off dg A5 A6 (fun _=>0) (fun _=>0) y.A9 y.v0 b b1 dead y.b3 y.b4 (Mm.bB dead 256) (Mm.bB dead 256) (Mm.nZ y.b4 4) (aY b i now o e r) ?_;unfold Bd;intro b5 b6;refine⟨fun c1=>⟨_,Mm.sG dead 256 A5,?_⟩,fun c1=>⟨rfl,gY m,_,⟨⟨true,false,false,false,false,false,[],[]⟩,gF bZ bZ,by simp [take,hX.k]⟩,⟨[],(adW _).symm,Nat.zero_le _,rfl⟩,zg (⟨a,d,dv,dead,1,id,out,kO,pa,pd,own,off,dg,((y.b3:Int)+1),((y.b4:Int)+1),aK,cf,since,heard,bD,bq⟩:MR) ⟨y.b3,y.b4,y.v0,y.cQ,y.A9⟩ rfl rfl hx hp (adW _).symm (adW _).symm⟩⟩;rintro v hs ⟨⟨q,rfl⟩,rfl⟩;refine⟨q,rfl,rfl,fun _=>⟨rfl,gY m,_,⟨⟨true,false,false,false,false,false,[],[]⟩,gF bZ bZ,by simp [take,hX.k]⟩,⟨[],(adW _).symm,Nat.zero_le _,rfl⟩,zg (⟨a,d,dv,dead,1,id,out,kO,pa,pd,own,off,dg,((y.b3:Int)+1),((y.b4:Int)+1),aK,cf,since,heard,bD,bq⟩:MR) ⟨y.b3,y.b4,y.v0,y.cQ,y.A9⟩ rfl rfl hx hp (adW _).symm (adW _).symm⟩,fun _=>⟨fun c2=>⟨rfl,gY m,_,⟨⟨false,false,false,false,false,false,[],[]⟩,gF bZ bZ,by simp [take,hX.k,hp,jq.1 c2]⟩,⟨[],(adW _).symm,Nat.zero_le _,rfl⟩,zg (⟨a,d,dv,dead,1,id,out,kO,pa,pd,own,off,dg,((y.b3:Int)+1),((y.b4:Int)+1),aK,cf,since,heard,bD,bq⟩:MR) ⟨y.b3,y.b4,y.v0,y.cQ,y.A9⟩ rfl rfl hx hp (adW _).symm (adW _).symm⟩,fun c2=>?_⟩⟩
 replace c2: ¬m.c=X.c:=fun h=>c2 (jq.2 h)
 refine⟨fun c3=>⟨_,QD b1 b6 id A5 A6 dv own off dg bF bA bG bO bQ bN a d 1 out kO pa pd aK cf since heard bD bq dead _ _,?_⟩,fun c3=>⟨_,cd b i now o e r (by omega) f0 f1 4 0 0 0 0 0 A5 (fun _=>0) sH sZ (by decide),?_⟩⟩
 ·rintro v hs ⟨⟨k,rfl⟩,rfl⟩;refine⟨k,rfl,rfl,fun c4=>?_,fun c4=>⟨rfl,gY m,_,⟨⟨false,false,false,false,false,true,[],[]⟩,gF bZ bZ,by simp [take,hX.k,hp,c2]⟩,⟨[],(adW _).symm,Nat.zero_le _,rfl⟩,zg (⟨a,d,dv,dead,1,id,out,kO,pa,pd,own,off,dg,((y.b3:Int)+1),((y.b4:Int)+1),aK,cf,since,heard,bD,bq⟩:MR) ⟨y.b3,y.b4,y.v0,y.cQ,y.A9⟩ rfl rfl hx hp (adW _).symm (adW _).symm⟩⟩;intro b7;have hl:=ny b b1 i now (⟨a,d,dv,dead,1,id,out,kO,pa,pd,own,off,dg,((y.b3:Int)+1),((y.b4:Int)+1),aK,cf,since,heard,bD,bq⟩:MR) o e r (by omega) y.b3 y.b4 y.v0 (k9 i) y.cQ y.A9 (Mm.nZ y.b4 4) sI rfl rfl rfl (hc.aK▸Int.natCast_nonneg _) 4 7;simp only [cn,fj]at hl;refine⟨_,hl,?_⟩;rintro v hs ⟨rfl,o',sub,rfl,je,tL,rfl⟩;have hr:=v_ b b1 i now (⟨a,d,dv,dead,0,id,out,kO,pa,pd,own,off,dg,((y.b3:Int)+1),((y.b4:Int)+1),aK,cf,since,heard,bD,bq⟩:MR) (o++Cp.to zK 5 (a_ id) i sub) (e++[⟨5,a_ id,0,zK⟩]) (r++[(a_ id,aK.toNat)]) (by simp [Cp.to];omega) bF bA bG bO bQ bN A5 A6;simp only [cn,fj]at hr;refine⟨_,rfl,rfl,_,hr,?_⟩;rintro v hs ⟨rfl,rfl⟩;have c5:bA=f0∧bG=f1:=ad5.1 fun h=>c1 (.inl h)
  obtain⟨rfl,rfl⟩:=c5;have ng:=ND (hX.c▸hS.c);have ha:=rN b b1 i now (⟨a,d,dv,dead,2,A5,0,bA,bA,bG,(fun _=>0),A6,(fun _=>0),((y.b3:Int)+1),((y.b4:Int)+1),(now:Int),0,(now:Int),0,0,0⟩:MR) (o++Cp.to zK 5 (a_ id) i sub) ((e++[⟨5,a_ id,0,zK⟩])++[⟨2,a_ A5,0,zK⟩]) (r++[(a_ id,aK.toNat)]) (by simp [Cp.to];omega) sH sZ own _ (hM A5 A6 own bA bG a d ng (hX.key▸hS.key) (hc.own▸hK.own (by omega)) sH sZ (by have:=hx.a;simp only at this;omega) (by have:=hx.d;simp only at this;omega));simp only [cn,fj]at ha;refine⟨_,_,_,_,_,_,rfl,rfl,_,ha,?_⟩;rintro v hs ⟨rfl,A,hA,rfl⟩;refine⟨_,_,_,_,rfl,rfl,rfl,⟨(answers zK F i (rings zK X now) m.own now).m,(leaves zK i m sub).o++(answers zK F i (rings zK X now) m.own now).o,(answers zK F i (rings zK X now) m.own now).e,(leaves zK i m sub).r⟩,_,⟨⟨false,false,true,false,false,false,sub,[]⟩,gF ⟨qW hi je,tL⟩ bZ,by simp [take,hX.k,hp,c2]⟩,⟨[_]++([_]++[_]),(List.append_assoc _ _ _).trans (List.append_assoc _ _ _),(by simp),?_⟩,QC (⟨a,d,dv,dead,3,A5,0,bA,bA,bG,own,A6,A,((y.b3:Int)+1),((y.b4:Int)+1),(now:Int),0,(now:Int),0,0,0⟩:MR) rfl rfl ⟨hx.a,hx.d,hx.Nu,hx.Nv,rfl,fun _=>⟨hX.c.symm,rfl,sH,sZ,hX.f.symm,hc.own,hX.key.symm,?_,rfl,rfl,rfl,rfl⟩⟩ (by simp [answers]) ?_ (congrArg (r++ ·) (tT hx (by omega) sub))⟩
  ·simp [told,answers,rings,hX.c,hX.f]
  ·rw [hA];show F _ _ _ _ _=F X.c X.key m.own X.f i;rw [hX.c,hX.key,hX.f,←hc.own];congr 1;have h1:=hx.a;have h2:=hx.d;simp only at h1 h2;rw [h1,h2];simp only [eh];omega
  ·rw [←zh hx hp];simp [answers,rings,hX.c,hX.f,←hc.own]
 ·rintro v hs ⟨rfl,rfl⟩;exact⟨_,rfl,rfl,rfl,⟨m,[⟨4,X.c,i,X.f,zK⟩],[],[]⟩,_,⟨⟨false,false,false,false,false,false,[],[]⟩,gF bZ bZ,by simp [take,hX.k,hp,c2]⟩,⟨[],(adW _).symm,Nat.zero_le _,rfl⟩,zg (⟨a,d,dv,dead,1,id,out,kO,pa,pd,own,off,dg,((y.b3:Int)+1),((y.b4:Int)+1),aK,cf,since,heard,bD,bq⟩:MR) ⟨y.b3,y.b4,y.v0,y.cQ,y.A9⟩ rfl rfl hx hp (by rw [hX.c,hX.f];rfl) (adW _).symm⟩
theorem NG(b b1 i now:Nat)(_:i<4)(m:Mc LI)(hp:m.ph=1)(y:DX)(a d:Int)(dv:Nat→Int)(dead:Nat)(id:Nat→Int)(out kO pa pd:Int)(own off dg:Nat→Int)(aK cf since heard bD bq:Int)
  (hx:Is i m (⟨a,d,dv,dead,1,id,out,kO,pa,pd,own,off,dg,((y.b3:Int)+1),((y.b4:Int)+1),aK,cf,since,heard,bD,bq⟩:MR)) (o:List (Mg LI)) (e:List (Ev LI)) (r:List (Nat×Nat)) (hB:o.length≤800∧e.length≤800∧r.length≤800) (f0 f1:Int) (sH:0≤f0∧f0<2) (sZ:0≤f1∧f1<2) (A5 A6:Nat→Int) (F:Nat→LI→LI→Nat→Nat→LI) (H:LI→LI) (X:Mg LI) (hX:zi X 2 f0 f1 A5 A6) (hcX:m.c=X.c)
  (hF: ∀c k k' a d,wa (F c k k' a d)) (hH:IS H) (A:Nat→Int) (hA:aJ A 0 32=F m.c m.own X.key i X.f) (xB:List Nat) (he:zf i xB) (o3:List (Mg LI)) (ho:o3=o++(⟨3,a_ id,i,eh f0 f1,zK⟩::Cp.to zK 6 (a_ id) i xB)) (L:List HP):
  ∃post,aq adY 117 [.pointer (some ⟨b1,0,none⟩),.pointer (some ⟨b,0,none⟩),.agg #[.int .u8 f0,.int .u8 f1],.int .u64 (now:Int)] [aY b i now o3 e r,ak b1 true (.int .u8 a::(.int .u8 d::(adH (al .u8 8 dv) (.pointer (some ⟨dead,0,none⟩)::(.int .u8 1::(adH (al .u8 16 id) (.bool (!(out==0))::(.int .u8 kO::(.int .u8 pa::(.int .u8 pd::(adH (al .u8 32 own) (adH (al .u8 32 off) (adH (al .u8 32 A) ([.pointer (some ⟨y.b3,0,none⟩),.pointer (some ⟨y.b4,0,none⟩),.int .u64 aK,.int .u64 cf,.int .u64 since,.int .u64 heard,.int .u64 bD,.int .u32 bq])))))))))))))),Mm.bB dead 256] post∧
  ∀x hs,post x hs→∃fJ:Int,∃fu:Int,∃ia:Int,∃p7:HP,x= .tuple #[]∧hs=[p7,ak b1 true (.int .u8 a::(.int .u8 d::(adH (al .u8 8 dv) (.pointer (some ⟨dead,0,none⟩)::(.int .u8 3::(adH (al .u8 16 id) (.bool (!(out==0))::(.int .u8 kO::(.int .u8 fJ::(.int .u8 fu::(adH (al .u8 32 own) (adH (al .u8 32 off) (adH (al .u8 32 A) ([.pointer (some ⟨y.b3,0,none⟩),.pointer (some ⟨y.b4,0,none⟩),.int .u64 aK,.int .u64 cf,.int .u64 ia,.int .u64 heard,.int .u64 bD,.int .u32 bq])))))))))))))),Mm.bB dead 256]∧
  ∃post,aq adY 118 [.pointer (some ⟨y.b4,0,none⟩),.agg #[.int .u8 f0,.int .u8 f1]] [Mm.nZ y.b4 4] post∧
  ∀x hs,post x hs→∃q0:Bool,x= .bool q0∧hs=[Mm.nZ y.b4 4]∧
  aU (q0=true) (
   ∃post,aq adY 119 [.pointer (some ⟨b1,0,none⟩),.pointer (some ⟨b,0,none⟩),.int .u64 (now:Int)] [p7,ak b1 true (.int .u8 a::(.int .u8 d::(adH (al .u8 8 dv) (.pointer (some ⟨dead,0,none⟩)::(.int .u8 3::(adH (al .u8 16 id) (.bool (!(out==0))::(.int .u8 kO::(.int .u8 fJ::(.int .u8 fu::(adH (al .u8 32 own) (adH (al .u8 32 off) (adH (al .u8 32 A) ([.pointer (some ⟨y.b3,0,none⟩),.pointer (some ⟨y.b4,0,none⟩),.int .u64 aK,.int .u64 cf,.int .u64 ia,.int .u64 heard,.int .u64 bD,.int .u32 bq])))))))))))))),Mm.bB dead 256] post∧
   ∀x hs,post x hs→∃eP:Int,∃p8:HP,x= .tuple #[]∧hs=[p8,ak b1 true (.int .u8 a::(.int .u8 d::(adH (al .u8 8 dv) (.pointer (some ⟨dead,0,none⟩)::(.int .u8 4::(adH (al .u8 16 id) (.bool (!(out==0))::(.int .u8 kO::(.int .u8 fJ::(.int .u8 fu::(adH (al .u8 32 own) (adH (al .u8 32 off) (adH (al .u8 32 A) ([.pointer (some ⟨y.b3,0,none⟩),.pointer (some ⟨y.b4,0,none⟩),.int .u64 aK,.int .u64 eP,.int .u64 eP,.int .u64 eP,.int .u64 eP,.int .u32 0])))))))))))))),Mm.bB dead 256]∧
   (fun(rv:Value) (hs:List HP)=>rv= .tuple #[]∧∃s e',ql F H i m X now s∧Tl e e' s.e∧aD hs (Out b b1 i now o e' r s)) (.tuple #[]) (p8::ak b1 true (.int .u8 a::(.int .u8 d::(adH (al .u8 8 dv) (.pointer (some ⟨dead,0,none⟩)::(.int .u8 4::(adH (al .u8 16 id) (.bool (!(out==0))::(.int .u8 kO::(.int .u8 fJ::(.int .u8 fu::(adH (al .u8 32 own) (adH (al .u8 32 off) (adH (al .u8 32 A) ([.pointer (some ⟨y.b3,0,none⟩),.pointer (some ⟨y.b4,0,none⟩),.int .u64 aK,.int .u64 eP,.int .u64 eP,.int .u64 eP,.int .u64 eP,.int .u32 0]))))))))))))))::Mm.bB dead 256::L)) (
   (fun(rv:Value) (hs:List HP)=>rv= .tuple #[]∧∃s e',ql F H i m X now s∧Tl e e' s.e∧aD hs (Out b b1 i now o e' r s)) (.tuple #[]) (p7::ak b1 true (.int .u8 a::(.int .u8 d::(adH (al .u8 8 dv) (.pointer (some ⟨dead,0,none⟩)::(.int .u8 3::(adH (al .u8 16 id) (.bool (!(out==0))::(.int .u8 kO::(.int .u8 fJ::(.int .u8 fu::(adH (al .u8 32 own) (adH (al .u8 32 off) (adH (al .u8 32 A) ([.pointer (some ⟨y.b3,0,none⟩),.pointer (some ⟨y.b4,0,none⟩),.int .u64 aK,.int .u64 cf,.int .u64 ia,.int .u64 heard,.int .u64 bD,.int .u32 bq]))))))))))))))::Mm.bB dead 256::L)):=by
 have hc:=hx.call (by omega);have hl:o3.length≤900:=by subst ho;simp [Cp.to];have:=he.2;omega
 have h1:=Ax b b1 i now (⟨a,d,dv,dead,1,id,out,kO,pa,pd,own,off,A,((y.b3:Int)+1),((y.b4:Int)+1),aK,cf,since,heard,bD,bq⟩:MR) o3 e r (by omega) f0 f1 sH sZ;have h2:=tQ b b1 i now (⟨a,d,dv,dead,3,id,out,kO,f0,f1,own,off,A,((y.b3:Int)+1),((y.b4:Int)+1),aK,cf,(now:Int),heard,bD,bq⟩:MR) o3 (e++[⟨3,a_ id,eh f0 f1,zK⟩]) r (by simp;omega) sH sZ (H (aJ A 0 32)) (hH b1 _ (by rw [hA];exact hF _ _ _ _ _));simp only [cn,fj]at h1 h2;have e1:a_ id=m.c:=hc.c;have e2:eh f0 f1=X.f:=hX.f.symm;refine⟨_,h1,?_⟩;rintro v hs ⟨rfl,rfl⟩;refine⟨_,_,_,_,rfl,rfl,_,Mm.G6 y.b4 4 f0 f1,?_⟩;rintro v hs ⟨⟨q,rfl⟩,rfl⟩;refine⟨q,rfl,rfl,fun _=>⟨_,h2,?_⟩,fun _=>?_⟩
 ·rintro v hs ⟨rfl,rfl⟩;refine⟨_,_,rfl,rfl,rfl,⟨{m with ph:=4,dg:=F m.c m.own X.key i X.f,peer:=X.f,since:=now,heard:=now,bD:=now},(⟨3,m.c,i,X.f,zK⟩::Cp.to zK 6 m.c i xB),[⟨3,m.c,X.f,zK⟩,⟨4,m.c,X.f,H (F m.c m.own X.key i X.f)⟩],[]⟩,_,⟨⟨false,true,false,false,true,false,[],xB⟩,gF bZ he,by simp [take,hX.k,Mc.has,hp,hcX,dX]⟩,⟨[_]++[_],List.append_assoc _ _ _,(by simp),?_⟩,QC (⟨a,d,dv,dead,4,id,out,kO,f0,f1,own,off,A,((y.b3:Int)+1),((y.b4:Int)+1),aK,(now:Int),(now:Int),(now:Int),(now:Int),0⟩:MR) rfl rfl ⟨hx.a,hx.d,hx.Nu,hx.Nv,rfl,fun _=>⟨hc.c,hc.out,sH,sZ,e2,hc.own,hc.off,hA,hc.aK,rfl,rfl,rfl⟩⟩ (by simp) (by rw [ho,e1,e2]) (adW _).symm⟩;simp [told,e1,e2,hA]
 ·refine⟨rfl,⟨{m with ph:=3,dg:=F m.c m.own X.key i X.f,peer:=X.f,since:=now},(⟨3,m.c,i,X.f,zK⟩::Cp.to zK 6 m.c i xB),[⟨3,m.c,X.f,zK⟩],[]⟩,_,⟨⟨false,false,false,false,true,false,[],xB⟩,gF bZ he,by simp [take,hX.k,Mc.has,hp,hcX]⟩,⟨[_],rfl,(by simp),?_⟩,QC (⟨a,d,dv,dead,3,id,out,kO,f0,f1,own,off,A,((y.b3:Int)+1),((y.b4:Int)+1),aK,cf,(now:Int),heard,bD,bq⟩:MR) rfl rfl ⟨hx.a,hx.d,hx.Nu,hx.Nv,rfl,fun _=>⟨hc.c,hc.out,sH,sZ,e2,hc.own,hc.off,hA,hc.aK,rfl,hc.heard,hc.bD⟩⟩ (by simp) (by rw [ho,e1,e2]) (adW _).symm⟩;simp [told,e1,e2]
theorem fL(b b1 i now:Nat)(hi:i<4)(m:Mc LI)(x:MR)(hx:Is i m x)(hp:m.ph=1)(y:DX)(hy:x.h_=(y.b3:Int)+1∧x.early=(y.b4:Int)+1)(o:List (Mg LI))(e:List (Ev LI))(r:List (Nat×Nat))(hB:o.length≤800∧e.length≤800∧r.length≤800)(f0 f1:Int)(sH:0≤f0∧f0<2)(sZ:0≤f1∧f1<2)(bF bA bG bO bQ bN:Int)(A5 A6:Nat→Int)(F:Nat→LI→LI→Nat→Nat→LI)(H:LI→LI)(X:Mg LI)(hX:zi X 2 f0 f1 A5 A6)(hM:xD F)(hF: ∀c k k' a d,wa (F c k k' a d))(hH:IS H)(hK:KM m)(hS:KS X):aq adY 88 [.pointer (some ⟨b1,0,none⟩),.pointer (some ⟨b,0,none⟩),.agg #[.int .u8 f0,.int .u8 f1],.agg (.int .u8 bF::(adH (al .u8 16 A5) (.int .u8 bA::(.int .u8 bG::(.int .u8 bO::(adH (al .u8 32 A6) ([.int .u32 bQ,.slice none 0 0,.int .u8 bN]))))))).toArray,.int .u64 (now:Int)] ([aY b i now o e r,cn b1 x,Mm.bB x.dead 256]++jF i y) (tS (ql F H i m X now) b b1 i now o e r):=by
 refine iB ?_;obtain⟨a,d,dv,dead,st,id,out,kO,pa,pd,own,off,dg,h_,early,aK,cf,since,heard,bD,bq⟩:=x;have h1:st=1:=by have:=hx.st;rw [hp]at this;exact this
 obtain⟨h2,h3⟩:=hy;simp only at h2 h3;subst h1 h2 h3;have hc:=hx.call (by omega);have jq:(∀j,j<16→id j=A5 j)↔m.c=X.c:=(n8 hx (by omega) A5).trans (by rw [hX.c]);rw [EV (m:=(⟨a,d,dv,dead,1,id,out,kO,pa,pd,own,off,dg,((y.b3:Int)+1),((y.b4:Int)+1),aK,cf,since,heard,bD,bq⟩:MR)) rfl rfl];refine GW _ a d 0 out kO pa pd 0 0 aK cf since heard bD bq 0 0 0 0 0 f0 f1 (now:Int) bF bA bG bO bQ bN 0 (k9 i) y.cQ dv id own off dg A5 A6 (fun _=>0) (fun _=>0) y.A9 y.v0 b b1 dead y.b3 y.b4 (Mm.bB dead 256) (Mm.bB dead 256) (Mm.nZ y.b4 4) (aY b i now o e r) ?_;unfold y5;intro b5 b6;refine⟨fun c1=>⟨_,cd b i now o e r (by omega) f0 f1 5 0 0 0 0 1 A5 (fun _=>0) sH sZ (by decide),?_⟩,fun c1=>⟨_,Rg.fL y.b3 y.v0 (k9 i) y.cQ 2 f0 f1 y.A9 sZ.1 (by omega) (by decide),?_⟩⟩
 ·rintro v hs ⟨rfl,rfl⟩;exact⟨_,rfl,rfl,rfl,⟨m,[⟨5,X.c,i,X.f,zK⟩],[],[]⟩,_,⟨⟨false,false,false,false,false,false,[],[]⟩,gF bZ bZ,by simp [take,hX.k,Mc.has,hp,(show¬m.c=X.c from fun h=>c1 (jq.2 h))]⟩,⟨[],(adW _).symm,Nat.zero_le _,rfl⟩,zg (⟨a,d,dv,dead,1,id,out,kO,pa,pd,own,off,dg,((y.b3:Int)+1),((y.b4:Int)+1),aK,cf,since,heard,bD,bq⟩:MR) ⟨y.b3,y.b4,y.v0,y.cQ,y.A9⟩ rfl rfl hx hp (by rw [hX.c,hX.f];rfl) (adW _).symm⟩
 rintro v hs ⟨c,fZ,rfl,rfl, -⟩;have c2:=jq.1 (ad5.1 c1);refine⟨c,fZ,rfl,rfl,fun _=>⟨rfl,gY m,_,⟨⟨false,false,false,false,false,false,[],[]⟩,gF bZ bZ,by simp [take,hX.k,Mc.has,hp,c2]⟩,⟨[],(adW _).symm,Nat.zero_le _,rfl⟩,zg (⟨a,d,dv,dead,1,id,out,kO,pa,pd,own,off,dg,((y.b3:Int)+1),((y.b4:Int)+1),aK,cf,since,heard,bD,bq⟩:MR) ⟨y.b3,y.b4,y.v0,fZ,y.A9⟩ rfl rfl hx hp (adW _).symm (adW _).symm⟩,fun _=>?_⟩;have Y2:eh a d=i:=by
  have h1:=hx.a;have h2:=hx.d;simp only at h1 h2;rw [h1,h2];simp only [eh];omega
 refine⟨_,hM id own A6 a d f0 f1 (ND (by have:=hc.c;simp only at this;rw [this];exact hK.c (by omega))) (hc.own▸hK.own (by omega)) (hX.key▸hS.key) (by have:=hx.a;simp only at this;omega) (by have:=hx.d;simp only at this;omega) sH sZ,?_⟩;rintro v hs ⟨A,rfl,rfl,hA⟩;rw [Y2,show a_ id=m.c from hc.c,show aJ own 0 32=m.own from hc.own,←hX.key,←hX.f]at hA;refine⟨A,rfl,rfl,_,cd b i now o e r (by omega) f0 f1 3 0 0 0 0 0 id (fun _=>0) sH sZ (by decide),?_⟩;rintro v hs ⟨rfl,rfl⟩;refine⟨_,rfl,rfl,?_⟩;intro b7 b8 b9 fh kA D12 Ql Qm;have tail:=NG b b1 i now hi m hp y a d dv dead id out kO pa pd own off dg aK cf since heard bD bq hx o e r hB f0 f1 sH sZ A5 A6 F H X hX c2 hF hH A hA;have DR: ∀l,(∀j∈l,j=eh (k9 i) 0∨j=eh (k9 i) 1)→l.length≤2→zf i l:=fun l h1 h2=>⟨qW hi h1,h2⟩
 refine⟨fun _=>fun uw=>⟨_,cd b i now _ e r (by simp;omega) (k9 i) 0 6 0 0 0 0 0 id (fun _=>0) sI (by decide) (by decide),?_⟩,fun _=>⟨fun _=>fun uw=>⟨_,cd b i now _ e r (by simp;omega) (k9 i) 1 6 0 0 0 0 0 id (fun _=>0) sI (by decide) (by decide),?_⟩,fun _=>?_⟩⟩
 ·rintro v hs ⟨rfl,rfl⟩;refine⟨_,rfl,rfl,fun _=>fun En=>⟨_,cd b i now _ e r (by simp;omega) (k9 i) 1 6 0 0 0 0 0 id (fun _=>0) sI (by decide) (by decide),?_⟩,fun _=>?_⟩
  ·rintro v hs ⟨rfl,rfl⟩;exact⟨_,rfl,rfl,tail [eh (k9 i) 0,eh (k9 i) 1] (DR _ (by simp) (by simp)) _ (by simp [Cp.to,zK,eh]) _⟩
  ·exact tail [eh (k9 i) 0] (DR _ (by simp) (by simp)) _ (by simp [Cp.to,zK,eh]) _
 ·rintro v hs ⟨rfl,rfl⟩;exact⟨_,rfl,rfl,tail [eh (k9 i) 1] (DR _ (by simp) (by simp)) _ (by simp [Cp.to,zK,eh]) _⟩
 ·exact tail [] (DR _ (by simp) (by simp)) _ (by simp [Cp.to,zK,eh]) _
end Go.RX.Cz
