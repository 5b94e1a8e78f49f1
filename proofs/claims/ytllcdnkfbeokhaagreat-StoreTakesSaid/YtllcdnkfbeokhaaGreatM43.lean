/- Sums. -/
import Derived.Test.YtllcdnkfbeokhaaGreatM42
open Go.IntKind renaming wrap → ae
open Go.Proofs.Tryz renaming prog → aqQ
open Int renaming toNat → ag, toNat_natCast → aqD
open List renaming append → aqk, getD_cons_zero → ah, getD_eq_getElem?_getD → aqN, getElem?_append_left → aqs, getElem?_eq_none → aq3, length_append → aql, length_singleton → aqm, mem_append → aqC, mem_map → aqV, mem_singleton → aqx
namespace Go.RX.Fm
open Go Go.RX Go.Proofs Go.RX.Sh Go.RX.Fg Go.RX.Fj Go.RX.Fk
set_option maxHeartbeats 4000000 in
theorem CJ(b:Nat)(b1:Nat)(vh vk w0:V1)(n0:Nat)(T0 M:Nat→Nat)(hM: ∀j,M j<256)(hT0: ∀j,j<n0→T0 j=M (0+j))(A0 A1:Nat→Int)(uy: ∀j,j<8→A0 j=(H0 j:Nat))(Ui: ∀j,j<64→A1 j=(K0 j:Nat))(hl:n0+300≤140737488355328):
  aq aqQ 47 [.pointer (some ⟨b,0,none⟩),.slice (some ⟨b1,0,none⟩) 1 1] [uG b vh vk,ff vh 8 A0,ff vk 64 A1,ak b1 true [w0.v],dg false w0 n0 T0] fun r hs=> ∃o:V1,r=o.v∧hs=[ak b1 true [w0.v],dg false w0 n0 T0,dg true o 32 (vP (n0+0) M)]:=by
 refine aq.post (p:=fun r hs=> ∃o:V1,r=o.v∧hs[3]? =some (ak b1 true [w0.v])∧hs[4]? =some (dg false w0 n0 T0)∧hs[9]? =some (dg true o 32 (vP (n0+0) M))) ?_ ?_;rotate_left
 ·rintro r hs ⟨o,rfl,g0,g1,g2⟩;refine⟨_,bJ.idx [3,4,9] (by decide) ?_,o,rfl,rfl⟩;intro m u hu
  match m,hu with
  | 0,hu=>cases hu;exact⟨3,rfl,g0⟩
  | 1,hu=>cases hu;exact⟨4,rfl,g1⟩
  | 2,hu=>cases hu;exact⟨9,rfl,g2⟩
  | m+3,hu=>simp at hu
 refine K_ _ (n0:Int) A0 A1 (fun j=>(T0 j:Nat)) vh vk w0 b b1 ?_;unfold vQ;have hS:=IX hM (n0+0);obtain⟨N,hN⟩: ∃N,N=n0+0:=⟨_,rfl⟩;rw [←hN]at hS ⊢;have hNl:N+300≤140737488355328:=by omega
 have Q_: ∀j,j<N→ky N M j=M j:=fun j hj=>by unfold ky;rw [if_pos hj]
 have hq:dZ N=64*((N+8)/64+1):=rfl;refine⟨by omega,fun _=>⟨by omega,fun _=>?_⟩⟩;intro u0;refine⟨fun e=> ∃q r:Nat,64*q+r=n0∧e.i=[(r:Int)]∧(∀j,j<r→(e.a.getD 0 fun _=>0) j=(ky N M (64*q+j):Nat))∧∀j,j<8→(e.a.getD 1 fun _=>0) j=(w6 (ky N M) q j:Nat),fun e=>(e.i.getD 0 0:Int).toNat,?_,?_⟩
 ·refine⟨u0,_,_,_,rfl,fun _ _=>rfl,rfl,rfl,fun _ _=>rfl,0,n0,by omega,rfl,fun j hj=>?_,fun j hj=>?_⟩
  ·simp only [ah];rw [Q_ _ (by omega),hT0 j hj]
  ·simp only [ah,List.getD_cons_succ];exact uy j hj
 rintro z0 x B0 C0 ⟨q,r,hqr,hx,hB,hH⟩;simp only [List.cons.injEq,and_true]at hx;subst hx;simp only [ah,List.getD_cons_succ]at hB hH;refine⟨by omega,fun _=>⟨fun lN=>?_,fun cq=>?_⟩⟩
 ·refine⟨_,w7 (B:=[aB true 5 1 z0.v r (aK r [aC .u8 1 B0])]) b vh vk (bT 1 z0.v 0 64 none) C0 A1 K0 (w6 (ky N M) q) (fun i=>ky N M (64*q+i)) hH (Hu _ q) Ui (fun j=>hS _) (PF (by omega) hB),?_⟩;rintro x hs ⟨C,rfl,rfl,hC⟩;refine⟨C,rfl,rfl,by omega,fun _=>⟨by omega,fun _=>?_⟩⟩;intro u;refine⟨u,_,_,_,rfl,fun _ _=>rfl,rfl,rfl,fun _ _=>rfl,⟨q+1,r - 64,by omega,congrArg (fun z:Int=>[z]) (by omega),fun j hj=>?_,fun j hj=>?_⟩,?_⟩
  ·simp only [ah];unfold bS;rw [hB _ (by omega)];congr 2;omega
  ·simp only [ah,List.getD_cons_succ];exact hC j hj
  ·simp only [ah];omega
 intro b2;refine⟨by omega,fun _=>?_⟩;intro u8;have hqN:N=64*q+r:=by omega
 have anD:r<64:=by omega
 have tr:ag (r:Int)=r:=rfl;rw [tr];refine⟨fun e=> ∃k:Nat,r+1≤k∧k+8+64*q≤dZ N∧e.i=[(k:Int)]∧∀j,j<k→(e.a.getD 0 fun _=>0) j=(ky N M (64*q+j):Nat),fun e=>((200:Int) - e.i.getD 0 0).toNat,⟨u8,_,_,rfl,rfl,rfl,fun _ _=>rfl,r+1,by omega,by omega,by rw [Int.natCast_add];rfl,fun j hj=>?_⟩,?_⟩
 ·simp only [ah];unfold bQ;by_cases c:j<r
  ·rw [if_neg (by omega)];exact hB j c
  ·have:j=r:=by omega
   subst this;rw [if_pos (by omega),Nat.sub_self];unfold ky;rw [if_neg (by omega),if_pos (by omega)];rfl
 rintro z8 x D ⟨k,hk1,hk2,hx,hD⟩;simp only [List.cons.injEq,and_true]at hx;subst hx;simp only [ah]at hD;have S7:ar .rem .i64 ((k:Int)+8) 64=(((k+8)%64:Nat):Int):=by rw [show(k:Int)+8=((k+8:Nat):Int) by omega];rfl
 rw [S7];have tk:ag (k:Int)=k:=rfl;rw [tk]
 iterate 3 refine⟨by omega,fun _=>?_⟩
 refine⟨fun fg=>?_,fun heq=>?_⟩
 ·intro b3;refine⟨by omega,fun _=>?_⟩;intro u;refine⟨u,_,_,rfl,rfl,rfl,fun _ _=>rfl,⟨k+1,by omega,by omega,by rw [Int.natCast_add];rfl,fun j hj=>?_⟩,?_⟩
  ·simp only [ah];unfold aw;split
   ·rename_i c;unfold ky;rw [if_neg (by omega),if_neg (by omega),if_pos (by omega)];rfl
   ·exact hD j (by omega)
  ·simp only [ah];omega
 have hk:k+8+64*q=dZ N:=by omega
 intro u9;refine⟨by omega,fun _=>?_⟩;intro u10;have hw:ae .u64 (ae .u64 (n0:Int))=(N:Int):=by
  rw [hN];rw [w64 (by omega),w64 (by omega)];rfl
 rw [hw];refine⟨fun e=> ∃p:Nat,64*p≤dZ N∧e.i=[((dZ N - 64*p:Nat):Int)]∧(∀j,j<dZ N - 64*p→(e.a.getD 0 fun _=>0) j=(ky N M (64*p+j):Nat))∧∀j,j<8→(e.a.getD 1 fun _=>0) j=(w6 (ky N M) p j:Nat),fun e=>(e.i.getD 0 0:Int).toNat,⟨u10,_,_,_,rfl,fun _ _=>rfl,rfl,rfl,fun _ _=>rfl,q,by omega,congrArg (fun z:Int=>[z]) (by omega),fun j hj=>?_,fun j hj=>?_⟩,?_⟩
 ·simp only [ah];unfold bQ;by_cases c:j<k
  ·rw [if_neg (by omega)];exact hD j c
  ·rw [if_pos (by omega),Xp (by omega) _ (by omega)];unfold ky;rw [if_neg (by omega),if_neg (by omega),if_neg (by omega)];congr 2;omega
 ·simp only [ah,List.getD_cons_succ];exact hH j hj
 rintro z10 x E F ⟨p,hp,hx,hE,hF⟩;simp only [List.cons.injEq,and_true]at hx;subst hx;simp only [ah,List.getD_cons_succ]at hE hF;have tp:ag ((dZ N - 64*p:Nat):Int)=dZ N - 64*p:=rfl;rw [tp];refine⟨by omega,fun _=>⟨fun u_=>?_,fun anG=>?_⟩⟩
 ·refine⟨by omega,fun _=>?_⟩;refine⟨_,w7 (B:=[aB true 5 1 z10.v (dZ N - 64*p) (aK (dZ N - 64*p) [aC .u8 1 E])]) b vh vk (bT 1 z10.v 0 64 none) F A1 K0 (w6 (ky N M) p) (fun i=>ky N M (64*p+i)) hF (Hu _ p) Ui (fun j=>hS _) (PF (by omega) hE),?_⟩;rintro x hs ⟨C,rfl,rfl,hC⟩;refine⟨C,rfl,rfl,by omega,fun _=>⟨by omega,fun _=>?_⟩⟩;intro u;refine⟨u,_,_,_,rfl,fun _ _=>rfl,rfl,rfl,fun _ _=>rfl,⟨p+1,by omega,congrArg (fun z:Int=>[z]) (by omega),fun j hj=>?_,fun j hj=>?_⟩,?_⟩
  ·simp only [ah];unfold bS;rw [hE _ (by omega)];congr 2;omega
  ·simp only [ah,List.getD_cons_succ];exact hC j hj
  ·simp only [ah];omega
 ·have F5:p=(N+8)/64+1:=by omega
  intros
  refine⟨_,rfl,rfl,rfl,congrArg some ?_⟩;unfold dg vP;rw [mZ (n:=32) (g:=fun j=>((Sh.bytesOf (w6 (ky N M) ((N+8)/64+1)) j:Nat):Int))];intro j hj;rw [←F5];exact abt hF j hj
open Go Go.RX Go.Proofs Go.RX.Sh Go.RX.Fg Go.RX.Fj Go.RX.Fk
theorem E4(b1:Nat)(w0:V1)(n0:Nat)(T0 M:Nat→Nat)(hM: ∀j,M j<256)(hT0: ∀j,j<n0→T0 j=M (0+j))(hl:n0+300≤140737488355328):aq aqQ 22 [.slice (some ⟨b1,0,none⟩) 1 1] [ak b1 true [w0.v],dg false w0 n0 T0] fun r hs=>r=(Value.agg (aj .u8 32 fun j=>((vP (n0+0) M j:Nat):Int)).toArray)∧hs=[ak b1 true [w0.v],dg false w0 n0 T0]:=by
 refine aq.post (p:=fun r hs=>r=(Value.agg (aj .u8 32 fun j=>((vP (n0+0) M j:Nat):Int)).toArray)∧hs[3]? =some (ak b1 true [w0.v])∧hs[4]? =some (dg false w0 n0 T0)) ?_ ?_;rotate_left
 ·rintro r hs ⟨rfl,g0,g1⟩;refine⟨_,bJ.idx [3,4] (by decide) ?_,rfl,rfl⟩;intro m u hu
  match m,hu with
  | 0,hu=>cases hu;exact⟨3,rfl,g0⟩
  | 1,hu=>cases hu;exact⟨4,rfl,g1⟩
  | m+2,hu=>simp at hu
 refine PH _ (n0:Int) (fun j=>(T0 j:Nat)) w0 b1 ?_;unfold zB;intro b0;refine⟨_,CI,?_⟩;rintro x hs ⟨b,vh,vk,A,B,rfl,rfl,hA,hB⟩;refine⟨b,vh,vk,A,B,rfl,rfl,?_⟩;refine⟨_,CJ b b1 vh vk w0 n0 T0 M hM hT0 A B hA hB hl,?_⟩;rintro x hs ⟨o,rfl,rfl⟩;refine⟨o,fun j=>(vP (n0+0) M j:Nat),rfl,rfl,by rw [List.append_eq,List.append_nil],rfl,rfl⟩
end Go.RX.Fm

namespace Go.RX
theorem aq.Xq{P:Program}{f:Nat}{args:List Value}{L:List HP}{p:Value→List HP→Prop}(hm:aq P f args L p)(hw: ∀h∈L,h.wr=false):aq P f args L fun r hs=> ∃nw,hs=L++nw∧p r nw:=by
 refine(aq.pre (aq.frame hm L) (bJ.Uj hw)).post ?_;rintro r hs ⟨nw,rfl,h⟩;exact⟨_,bJ.perm List.perm_append_comm,nw,rfl,h⟩
end Go.RX
namespace Go.RX.Vb
open Go Go.RX Go.Proofs Go.Vs Go.RX.Fm Go.RX.Sh
def dZ(l:List Nat):List Nat:=(List.range 32).map (vP l.length fun j=>l.getD j 0)
theorem cm(l:List Nat):(dZ l).length=32:=by simp [dZ]
theorem E5(l:List Nat){j:Nat}(h:j<32):aL (dZ l) j=((vP l.length (fun j=>l.getD j 0) j:Nat):Int):=by
 rw [iF (by rw [cm];exact h)];simp [dZ]
theorem CL(l:List Nat): ∀x∈dZ l,x<256:=by
 intro x hx;obtain⟨j,_,rfl⟩:=aqV.1 hx;exact S6 _ _ _
theorem IZ{l:List Nat}(h: ∀x∈l,x<256)(j:Nat):l.getD j 0<256:=by
 rw [aqN];by_cases hj:j<l.length
 ·rw [List.getElem?_eq_getElem hj];exact h _ (List.getElem_mem hj)
 ·rw [aq3 (by omega)];decide
def eh:List Nat:=[72,76,83,84,0,1]
def fk(l:List Nat):List Nat:=eh++be 4 l.length++l
def dt(l:List Nat):List Nat:=fk l++(dZ (fk l)).take 8
theorem cM(l:List Nat):(fk l).length=10+l.length:=by
 simp [fk,eh,au];omega
theorem uH{l:List Nat}(h: ∀x∈l,x<256): ∀x∈fk l,x<256:=by
 intro x hx;rcases aqC.1 hx with hx | hx
 ·rcases aqC.1 hx with hx | hx
  ·simp only [eh,List.mem_cons,List.not_mem_nil,or_false]at hx;omega
  ·exact aao _ _ x hx
 ·exact h x hx
theorem E6(b:Nat)(v:V1)(l:List Nat)(h: ∀x∈l,x<256)(hl:l.length+300≤140737488355328):aq aqQ 22 [.slice (some ⟨b,0,none⟩) 1 1] [ak b true [v.v],aT false v.v l]
  fun r hs=>r= .agg (aj .u8 32 (aL (dZ l))).toArray∧hs=[ak b true [v.v],aT false v.v l]:=by
 refine aq.post (E4 b v l.length (fun j=>l.getD j 0) (fun j=>l.getD j 0) (IZ h) (fun j _=>by rw [Nat.zero_add]) hl) ?_;rintro r hs ⟨rfl,rfl⟩;refine⟨_,bJ.refl _,?_,rfl⟩;exact congrArg (fun z:List Value=>Value.agg z.toArray) (fq fun j hj=>(E5 l hj).symm)
theorem S8(b:Nat)(v:V1)(l:List Nat)(h: ∀x∈l,x<256)(hl:l.length+300≤140737488355328):aq aqQ 22 [.slice (some ⟨b,0,none⟩) 1 1] [ak b true [v.v],aT true v.v l]
  fun r hs=>r= .agg (aj .u8 32 (aL (dZ l))).toArray∧hs=[ak b true [v.v],aT true v.v l]:=by
 have h1:aq aqQ 22 [.slice (some ⟨b,0,none⟩) 1 1] ([ak b true [v.v]]++[aT false v.v l]) fun r hs=>r= .agg (aj .u8 32 (aL (dZ l))).toArray∧hs=[ak b true [v.v]]:=by
  refine aq.post (E6 b v l h hl) ?_;rintro r hs ⟨rfl,rfl⟩;exact⟨_,bJ.sub (.cons_cons _ (.cons _ .slnil)),rfl,rfl⟩
 refine aq.post (aq.Cg (B:=[aT true v.v l]) h1 ?_ ?_) ?_
 ·rintro _ hs ⟨_,rfl⟩ x hx;rw [aqx.1 hx];rfl
 ·intro x hx;rw [aqx.1 hx];exact bc.own
 ·rintro r hs ⟨xQ,⟨rfl,rfl⟩,rfl⟩;exact⟨_,bJ.refl _,rfl,rfl⟩
theorem cd.m7{A:Nat→Int}{l:List Nat}{o:Nat}{z:Int}{c:Nat}(h:cd A l)(ho:o=l.length)(hz:z=c):cd (aw A o z) (l++[c]):=by
 subst ho hz;intro j hj;rw [aql,aqm]at hj;simp only [aw,aL,aqN];split
 ·rename_i e;subst e;simp
 ·rw [aqs (by omega),h j (by omega)];simp [aL]
theorem Hw(b b1:Nat)(x:Nat):aq aqQ 21 [wP b,.int .u64 (x:Int),.int .i64 4] [ak b true ([.bool true,.slice (some ⟨b1,0,none⟩) 6 6,.bool false]),ak b1 false ([.int .u8 72,.int .u8 76,.int .u8 83,.int .u8 84,.int .u8 0,.int .u8 1])]
  fun r hs=>r= .int .u64 (x:Int)∧∃v':V1,hs=[cZ b true v'.v false,aT true v'.v (eh++be 4 x)]:=by
 refine aq.post (Sw (fun r hs=>r= .int .u64 (x:Int)∧∃v':V1,List.Sublist [cZ b true v'.v false,aT true v'.v (eh++be 4 x)] hs) (x:Int) b b1 ?_) ?_;rotate_left
 ·rintro r hs ⟨rfl,v',h⟩;exact⟨_,bJ.sub h,rfl,v',rfl⟩
 unfold IL;dsimp only [Nr,cV];intro b2 _ b3 _ b4 _ b5 v';refine⟨rfl,v',?_⟩;have hb:cd (aw (aw (aw (aw (aw (aw (fun _=>(0:Int)) 0 72) 1 76) 2 83) 3 84) 4 0) 5 1) eh:=by
  intro j hj
  match j,hj with
  | 0,_=>rfl
  | 1,_=>rfl
  | 2,_=>rfl
  | 3,_=>rfl
  | 4,_=>rfl
  | 5,_=>rfl
  | j+6,hj=>exact absurd hj (by simp [eh])
 have h1:=hb.jl (o:=6) (n:=1) (m:=[x/2^24%256]) (g:=aw (fun _=>0) 0 (ae .u8 (ar .shr .u64 (x:Int) 24))) rfl rfl fun j hj=>by
  rw [show j=0 by omega];exact fH x 24 (by omega) 24 rfl
 have h2:=h1.m7 (o:=7) rfl (fH x 16 (by omega) 16 rfl);have h3:=h2.m7 (o:=8) rfl (fH x 8 (by omega) 8 rfl);have h4:=h3.m7 (o:=9) rfl (fH x 0 (by omega) 0 rfl);have e:eh++be 4 x=eh++[x/2^24%256]++[x/2^16%256]++[x/2^8%256]++[x/2^0%256]:=by
  simp only [be,List.nil_append,Nat.pow_zero,Nat.div_one,List.append_assoc,Nat.div_div_eq_div_mul,Nat.reducePow,Nat.reduceMul,List.cons_append]
 rw [e];refine .cons_cons _ (.cons _ (.cons _ ?_));have h5:=h4.xE;have e10:(eh++[x/2^24%256]++[x/2^16%256]++[x/2^8%256]++[x/2^0%256]).length=10:=rfl;rw [e10]at h5;rw [h5];exact .cons_cons _ (.cons _ (.cons _ (.cons _ .slnil)))
set_option maxRecDepth 100000 in
set_option maxHeartbeats 4000000 in
theorem Lc(s:Vs.State)(most dP:Int)(u1 u2 u3 u4 u5 u6 u7:V1)(C:Nat→Int)(H:HP)(hH:H.wr=false)(hP:ob H s.table.bA C)(hs:BD s)(hm:lL s most dP=true→most=(s.table.most:Int)∧dP=(s.call.hJ:Int) - 1∧CA s)(hb:fX (bq.enc s)):
  aq aqQ 9 [.agg (rD s most dP u1.v u2.v u3.v u4.v u5.v u6.v u7.v).toArray] (fj false s C u1.v u2.v u3.v u4.v u5.v u6.v u7.v++[H]) fun r hs=>
   (lL s most dP=false→r= .tuple #[.slice none 0 0,.int .i64 2]∧hs=[])∧
   (lL s most dP=true→4194286<(bq.enc s).length→r= .tuple #[.slice none 0 0,.int .i64 3]∧hs=[])∧
   (lL s most dP=true→(bq.enc s).length≤4194286→∃o:V1,r= .tuple #[o.v,.int .i64 0]∧hs=[aT true o.v (dt (bq.enc s))]):=by
 have hw: ∀h∈fj false s C u1.v u2.v u3.v u4.v u5.v u6.v u7.v++[H],h.wr=false:=by
  intro h hh;rcases aqC.1 hh with hh | hh
  ·exact lookW rfl h hh
  ·rw [aqx.1 hh];exact hH
 refine Wz _ (s.drawn:Int) (s.table.keys.dev.a:Int) (s.table.keys.dev.d:Int) most (s.call.me.a:Int) (s.call.me.d:Int) (s.call.state:Int) (bi s.call.out) (s.call.aX:Int) (s.call.peer.a:Int) (s.call.peer.d:Int) dP (s.call.fi:Int) (s.call.cc:Int) (s.call.since:Int) (s.call.heard:Int) (s.call.oa:Int) (s.call.jh:Int)
  (s.table.keys.once.length:Int) (s.table.bA.length:Int) (s.call.dead.length:Int) (s.call.marks.length:Int) (s.call.early.length:Int) (s.log.length:Int) (s.aO.length:Int)
  (aL s.oN) (aL s.table.keys.ident) (aL s.table.keys.signed) (aL s.call.d_) (aL s.call.id) (aL s.call.own) (aL s.call.ef) (aL s.call.jg) (cu dx.id s.table.keys.once) (dV dx.dY s.table.keys.once) (cu (fun p:fp=>p.dev.a) s.table.bA) (cu (fun p:fp=>p.dev.d) s.table.bA) C (dV (fun x=>x) s.call.dead) (aL s.call.marks) (cu jW.a s.call.early) (cu jW.d s.call.early) (aL s.log) (dV Room.id s.aO) (cu Room.aX s.aO) (jm Room.out s.aO) (cu Room.since s.aO) u1 u2 u3 u4 u5 u6 u7 H ?_
 unfold OH;dsimp only [bf,bp,rO,xF,sX,ze,sY,Nr,cV,Ap];intro b0;refine⟨_,aq.looks (vM s most dP u1 u2 u3 u4 u5 u6 u7 C H hH hP hs) hw,?_⟩;rintro x kT ⟨rfl,rfl⟩;refine⟨_,rfl,rfl,?_⟩;refine⟨fun hq=>?_,fun hq=>?_⟩
 ·have hf:lL s most dP=false:=by simpa using hq
  exact⟨fun _=>⟨rfl,rfl⟩,fun h=>Bool.noConfusion (hf.symm.trans h),fun h=>Bool.noConfusion (hf.symm.trans h)⟩
 have ht:lL s most dP=true:=by simpa using hq
 obtain⟨rfl,rfl,jf⟩:=hm ht;refine⟨_,aq.Xq (zz s u1 u2 u3 u4 u5 u6 u7 C H hH hP jf hb.n) hw,?_⟩;rintro x kT ⟨nw,rfl,o,rfl,rfl⟩;obtain⟨L,hL⟩: ∃L,L=bq.enc s:=⟨_,rfl⟩;rw [←hL]at hb ⊢;refine⟨o,(L.length:Int),aL L,rfl,rfl,?_⟩;refine⟨by omega,fun _=>⟨fun hl=>?_,fun hl=>?_⟩⟩
 ·exact⟨fun h=>Bool.noConfusion (ht.symm.trans h),fun _ _=>⟨rfl,rfl⟩,fun _ h=>absurd h (by omega)⟩
 have LD:L.length≤4194286:=by omega
 intro b1 b2;rw [iz (by omega)];refine⟨_,Hw b2 b1 L.length,?_⟩;rintro x kT ⟨rfl,v8,rfl⟩;have n0:(eh++be 4 L.length).length=10:=by simp [eh,au]
 refine⟨v8,(L.length:Int),10,aL (eh++be 4 L.length),rfl,congrArg (fun n:Nat=>[cZ b2 true v8.v false,aB true 5 1 v8.v n (aK n [aC .u8 1 (aL (eh++be 4 L.length))])]) n0,?_⟩;refine⟨by omega,fun _=>⟨by omega,fun _=>?_⟩⟩;intro v9 b3;have hA:cd (bQ (aL (eh++be 4 L.length)) (ag 10) (ag (L.length:Int)) (aL L)) (fk L):=cd.rfl.jl n0.symm (aqD _) fun _ _=>rfl
 have hn:ag (10+(L.length:Int))=(fk L).length:=by rw [cM];omega
 rw [hn,hA.xE];refine⟨_,S8 b3 v9 (fk L) (uH hb.b) (by rw [cM];omega),?_⟩;rintro x kT ⟨rfl,rfl⟩;refine⟨aL (dZ (fk L)),by rw [show∀l:List Value,aqk l []=l from List.append_nil],rfl,?_⟩;intro b4;refine⟨by omega,fun _=>⟨by omega,fun _=>?_⟩⟩;intro v10;refine⟨fun h=>Bool.noConfusion (ht.symm.trans h),fun _ h=>absurd h (by omega),fun _ _=>⟨v10,rfl,?_⟩⟩;have hB:cd (bQ (bQ (aL (eh++be 4 L.length)) (ag 10) (ag (L.length:Int)) (aL L)) (fk L).length 8 (aL (dZ (fk L)))) (dt L):=hA.jl rfl (by rw [List.length_take,cm];rfl) fun j hj=>by
  rw [iF (by rw [cm];omega),iF (by rw [List.length_take,cm];omega),List.getElem_take]
 have hn2:ag (10+(L.length:Int)+8)=(dt L).length:=by
  rw [dt,aql,cM,List.length_take,cm];omega
 rw [hn2,hB.xE]
open Go Go.RX Go.Proofs Go.Vs
theorem PI{e:b_}(h:bR.ok e):uw e:=by
 obtain⟨⟨a1,a2,a3,a4,_,_,_,_,⟨a5,a6⟩,⟨a7,a8⟩,a9,GH,Eh⟩,b1,b2,_,b3,_⟩:=h;exact⟨a1,a2,a3,a4,a5,a6,a7,a8,a9,GH,fun x hx=>(Eh x hx).1,fun x hx=>(Eh x hx).2.1,fun x hx=>(Eh x hx).2.2,b1,b2,b3⟩
theorem Ld{p:fp}(h:bO.ok p):mV p:=by
 obtain⟨⟨a1,a2⟩,a3,a4⟩:=h;exact⟨a1,a2,a3,fun e he=>PI (a4 e he)⟩
theorem CM{s:Vs.State}(h:bq.ok s):CA s:=by
 obtain⟨a1,a2,⟨⟨⟨a3,a4⟩,a5,a6,a7,a8⟩,a9,GH,Eh⟩,⟨⟨c1,c2⟩,c3,⟨c4,c5⟩,c6,c7,_,c8,⟨c9,c10⟩,KA,KB,c13,c14,c15,⟨c16,c17⟩,_,_,_,_,_,c18⟩,l1,r1,r2⟩:=h;exact⟨a1,a2,a3,a4,a5,a6,a7,fun x hx=>(a8 x hx).1,fun x hx=>(a8 x hx).2,a9,GH,fun p hp=>Ld (Eh p hp),c1,c2,c3,c4,c5,c6,c7,c8,c9,c10,KA,KB,c13,c14,c15,c16,fun x hx=>(c17 x hx).1,fun x hx=>(c17 x hx).2,c18,l1,r1,fun x hx=>(r2 x hx).1,fun x hx=>(r2 x hx).2.1⟩
theorem m5{s:Vs.State}(h:CA s)(hb:fX (bq.enc s)):BD s:=by
 have Gy:s.log.Sublist (bq.enc s):=by
  rw [vJ];refine List.Sublist.trans ?_ (List.sublist_append_right _ _);refine List.Sublist.trans ?_ (List.sublist_append_right _ _);refine List.Sublist.trans ?_ (List.sublist_append_right _ _);refine List.Sublist.trans ?_ (List.sublist_append_right _ _);refine List.Sublist.trans ?_ (List.sublist_append_left _ _);exact List.sublist_append_right _ _
 exact⟨h.once,h.bA,h.peer,h.dead,h.marks,h.early,⟨fun x hx=>hb.b x (Gy.subset hx),Nat.le_trans Gy.length_le hb.n⟩,h.aO,h.Ug⟩
def aQ(l:List Nat)(lo hi:Nat):List Nat:=(l.drop lo).take (hi - lo)
theorem c_{l:List Nat}{lo hi:Nat}(h1:lo≤hi)(h2:hi≤l.length):(aQ l lo hi).length=hi - lo:=by
 simp [aQ];omega
theorem oP{l:List Nat}(h: ∀x∈l,x<256){lo hi:Nat}: ∀x∈aQ l lo hi,x<256:=fun x hx=>h x (List.mem_of_mem_drop (List.mem_of_mem_take hx))
theorem uI{l:List Nat}(h:fX l){lo hi:Nat}:fX (aQ l lo hi):=(h.drop _).take _
theorem vR{l:List Nat}{a b c:Nat}(h1:a≤b)(h2:b≤c):aQ l a b++aQ l b c=aQ l a c:=by
 have h:l.drop b=(l.drop a).drop (b - a):=by rw [List.drop_drop];congr 1;omega
 rw [aQ,aQ,aQ,h,show c - a=(b - a)+(c - b) by omega,List.take_add]
theorem oQ(l:List Nat):aQ l 0 l.length=l:=by simp [aQ]
def vS(l:List Nat):Prop:=18≤l.length∧aQ l 0 6=eh
def zC(l:List Nat):Prop:=iI (aQ l 6 10)=l.length - 18∧(dZ (aQ l 0 (l.length - 8))).take 8=aQ l (l.length - 8) l.length
instance (l:List Nat):Decidable (vS l):=by unfold vS;infer_instance
instance (l:List Nat):Decidable (zC l):=by unfold zC;infer_instance
def oe(l:List Nat):Vs.State×rB:=bq.bz (some (aQ l 10 (l.length - 8)))
def gH(l:List Nat):Option Vs.State:=
 if l.length≤4194304∧vS l∧zC l∧(oe l).2=some []∧lL (oe l).1 (oe l).1.table.most ((oe l).1.call.hJ - 1)=true then some (oe l).1 else none
theorem I0{l:List Nat}(hl: ∀x∈l,x<256)(h:(oe l).2=some []):aQ l 10 (l.length - 8)=bq.enc (oe l).1∧CA (oe l).1:=by
 have h0:oe l=((oe l).1,some []):=by rw [←h]
 have h1:=bq.bwd (aQ l 10 (l.length - 8)) (oe l).1 [] (oP hl) h0;exact⟨by rw [h1.1,List.append_nil],CM h1.2⟩
set_option maxRecDepth 10000 in
theorem E7{l:List Nat}(hl: ∀x∈l,x<256){s:Vs.State}(h:gH l=some s):l.length≤4194304∧l=dt (bq.enc s)∧CA s∧aQ l 10 (l.length - 8)=bq.enc s∧lL s s.table.most (s.call.hJ - 1)=true∧18≤l.length:=by
 unfold gH at h;split at h
 ·rename_i hc;cases h;obtain⟨h0,⟨h1,h2⟩,⟨h3,h4⟩,h5,h6⟩:=hc;obtain⟨e1,e2⟩:=I0 hl h5;refine⟨h0,?_,e2,e1,h6,h1⟩;have hb:be 4 (l.length - 18)=aQ l 6 10:=by
   rw [←h3];exact(Cx 4 _ (c_ (by omega) (by omega)) (oP hl)).1
  have hd:fk (bq.enc (oe l).1)=aQ l 0 (l.length - 8):=by
   rw [←e1,fk,c_ (by omega) (by omega),show l.length - 8 - 10=l.length - 18 by omega,hb,←h2,vR (by omega) (by omega),vR (by omega) (by omega)]
  rw [dt,hd,h4,vR (by omega) (by omega),oQ]
 ·cases h
theorem E8{l m:List Nat}(e:l=dt m)(hn:m.length<256^4):vS l∧zC l∧aQ l 10 (l.length - 8)=m:=by
 have hlen:l.length=m.length+18:=by
  rw [e,dt,aql,cM,List.length_take,cm];omega
 have e0:l=fk m++(dZ (fk m)).take 8:=e;have p0:aQ l 0 (l.length - 8)=fk m:=by
  rw [aQ,List.drop_zero,e0,aql,cM,List.length_take,cm];exact List.take_left' (by rw [cM];omega)
 have p1:aQ l (l.length - 8) l.length=(dZ (fk m)).take 8:=by
  rw [aQ,e0,aql,cM,List.length_take,cm,show 10+m.length+min 8 32 - 8=(fk m).length by rw [cM];omega,List.drop_left];exact List.take_of_length_le (by rw [List.length_take,cm,cM];omega)
 have e1:l=eh++(be 4 m.length++(m++(dZ (fk m)).take 8)):=by rw [e0,fk];simp
 refine⟨⟨by omega,?_⟩,⟨?_,by rw [p0,p1]⟩,?_⟩
 ·rw [aQ,List.drop_zero,e1];rfl
 ·rw [aQ,e1];rw [show List.drop 6 (eh++(be 4 m.length++(m++(dZ (fk m)).take 8)))=be 4 m.length++(m++(dZ (fk m)).take 8)from rfl,List.take_left' (by rw [au]),IG 4 _ hn];rw [←e1,hlen];omega
 ·rw [aQ,hlen,e1];rw [show List.drop 10 (eh++(be 4 m.length++(m++(dZ (fk m)).take 8)))=m++(dZ (fk m)).take 8 by
   rw [←List.append_assoc];exact List.drop_left' (by simp [eh,au])]
  exact List.take_left' (by omega)
end Go.RX.Vb
