/- A key some steps on; a frame's key; a member's frames, to and fro. · GroupPlays itself: the executor's context. -/
import Derived.Test.YtfnaoeleljhmhaaGreatM33
import Derived.Test.YtfnaoeleljhmhaaGreatM35
import Derived.Test.YtfnaoeleljhmhaaGreatM26

namespace Go.RX.Ia
open Go Go.RX Go.Proofs Go.Gp Go.RX.Gb Go.RX.Gf Go.RX.Gl Go.RX.Gr Go.RX.Gq
theorem flat_bld(c:UInt8)(d:List UInt8)(ps:List (List UInt8)):(bldB c d ps).length≤1+d.length+ps.flatten.length:=by
 unfold bldB;split
 ·simp
 ·simp only [List.length_cons,List.length_append];omega
theorem symB_len(c:UInt8)(ps:List (List UInt8)):(symB c ps).length≤20+ps.flatten.length:=by
 have e0:(hashB 1 []).length=10:=rfl;have h:=flat_bld 3 (beB c.toNat++[UInt8.ofNat (hashB 1 []::ps).length]) (hashB 1 []::ps);have e1:(beB c.toNat++[UInt8.ofNat (hashB 1 []::ps).length]).length=9:=rfl;rw [e1,List.flatten_cons,List.length_append,e0]at h;have h':(symB c ps).length≤1+9+(10+ps.flatten.length):=h;omega
def stepB(k:List UInt8):Nat→List UInt8
 | 0=>k
 | n+1=>symB 10 [stepB k n]
theorem stepB_len(k:List UInt8): ∀n,(stepB k n).length≤k.length+20*n
 | 0=>Nat.le_refl _
 | n+1=>by
  have h1:=stepB_len k n;have h2:=symB_len 10 [stepB k n];simp only [List.flatten_cons,List.flatten_nil,List.append_nil]at h2;show(symB 10 [stepB k n]).length≤_;omega
theorem numB_len(n:Nat):(numB n).length≤90:=by
 have:=flat_bld 3 (beB (0:UInt8).toNat++[UInt8.ofNat ((beB n).map fun c=>hashB c []).length]) ((beB n).map fun c=>hashB c []);have e1:(beB (0:UInt8).toNat++[UInt8.ofNat ((beB n).map fun c=>hashB c []).length]).length=9:=rfl;have e2:((beB n).map fun c=>hashB c []).flatten.length=80:=rfl;rw [e1,e2]at this;exact this
theorem step_meets(b:Nat)(k:List UInt8)(g:Nat)(hl:k.length≤1000000):
  Meets Tryz.prog 18 [.iface 135 (.pointer (some ⟨b,0,none⟩)),tv k,.int .u64 (g:Int)] [] fun r hs=>r= .tuple #[tv (if 64<g then []else stepB k g),.int .i64 (if 64<g then 5 else 0)]∧hs=[]:=by
 have base:=mt_step (fun r _=>r= .tuple #[tv (if 64<g then []else stepB k g),.int .i64 (if 64<g then 5 else 0)]) ((sCode k:Nat):Int) (g:Int) b;rw [code_str]at base;refine(base ?_).post fun r hs h=>⟨[],Ent.sub (List.nil_sublist _),h,rfl⟩
 unfold st_step;intro _ _ _;refine⟨fun h=>?_,fun h=>?_⟩
 ·rw [if_pos (by omega),if_pos (by omega)];rfl
 ·refine⟨fun x=> ∃i:Nat,x=⟨[],[],[(i:Int),((sCode (stepB k i):Nat):Int)],[],[],[],[]⟩∧i≤g,fun x=>g - (x.i.getD 0 0).toNat,⟨_,_,rfl,rfl,0,rfl,Nat.zero_le _⟩,?_⟩;rintro x2 x3 ⟨i,he,hi⟩;cases he;have hsl:=stepB_len k i;rw [code_str];refine⟨fun hlt b4=>?_,fun hge=>?_⟩
  ·have hm:=shash_meets b 10 [stepB k i] ⟨.slice (some ⟨b4,0,none⟩) 1 1,rfl⟩ (by simp) (by simp;omega);refine⟨_,hm.pre (Ent.rowLook b4 33 1 [strC (stepB k i)] rfl (by show 1≤maxLen;unfold maxLen;omega)),fun x hs hq=>?_⟩;obtain⟨rfl,rfl⟩:=hq;refine⟨((sCode (stepB k (i+1)):Nat):Int),by rw [code_str];rfl,rfl,_,_,rfl,rfl,⟨i+1,?_,by omega⟩,?_⟩
   ·rw [w64];congr 2;omega
   ·simp only [List.getD_cons_zero];rw [w64];omega
  ·have hie:i=g:=by omega
   subst hie;rw [if_neg (by omega),if_neg (by omega)];rfl
def lockV(k:List UInt8)(g n:Nat):List UInt8×Int:=if 64<g then([],5)else(symB 11 [stepB k g,numB n],0)
theorem lock_meets(b b1:Nat)(m:Me)(v0 v1 v2:V1)(k:List UInt8)(g n:Nat)(hl:k.length≤1000000):
  Meets Tryz.prog 63 [.pointer (some ⟨b,0,none⟩),tv k,.int .u64 (g:Int),.int .u64 (n:Int)] [mrow b b1 m v0 v1 v2] fun r hs=>r= .tuple #[tv (lockV k g n).1,.int .i64 (lockV k g n).2]∧hs=[mrow b b1 m v0 v1 v2]:=by
 have base:=mt_lock (fun r hs=>r= .tuple #[tv (lockV k g n).1,.int .i64 (lockV k g n).2]∧hs=[mrow b b1 m v0 v1 v2]) m.sf.1 m.sf.2 (bI m.so) m.ep ((sCode k:Nat):Int) (g:Int) (n:Int) (fun i=>m.g.getD i 0) v0 v1 v2 b b1;rw [code_str,mR_row]at base;refine base ?_;unfold st_lock;rw [code_str,mR_row];have hst:=stepB_len k g;have hnl:=numB_len n;have rest: ¬64<g→∀b5:Nat,Meets Tryz.prog 255 [.pointer (some ⟨b1,0,none⟩),.int .u8 11,.slice (some ⟨b5,0,none⟩) 2 2] [rowHP b5 true [strC (stepB k g),strC (numB n)]] fun r hs=>r=tv (symB 11 [stepB k g,numB n])∧hs=[]:=fun hg b5=>
  (shash_meets b1 11 [stepB k g,numB n] ⟨.slice (some ⟨b5,0,none⟩) 2 2,rfl⟩ (by simp) (by simp;omega)).pre (Ent.rowLook b5 33 2 [strC (stepB k g),strC (numB n)] rfl (by show 2≤maxLen;unfold maxLen;omega))
 have fin: ∀hs,(.tuple #[tv (if 64<g then []else stepB k g),.int .i64 (if 64<g then 5 else 0)]:Value)=hs→True:=fun _ _=>trivial
 intro _ _;refine⟨⟨_,step_meets b1 k g hl,fun x hs hq=>?_⟩,fun _=>⟨_,step_meets b1 k g hl,fun x hs hq=>?_⟩⟩
 all_goals
  obtain⟨rfl,rfl⟩:=hq;refine⟨((sCode (if 64<g then []else stepB k g):Nat):Int),(if 64<g then 5 else 0),by rw [code_str];rfl,rfl,?_⟩;rw [code_str];by_cases hg:64<g
 ·intro _;refine⟨fun _=>?_,fun h=>absurd (by rw [if_pos hg];decide) h⟩;rw [lockV,if_pos hg,if_pos hg,if_pos hg];exact⟨rfl,rfl⟩
 ·intro _;refine⟨fun h=>absurd (by rw [if_neg hg]) h,fun _=>?_⟩;refine⟨_,num_meets b1 n,fun x hs hq=>?_⟩;obtain⟨rfl,rfl⟩:=hq;refine⟨((sCode (numB n):Nat):Int),by rw [code_str];rfl,rfl,?_⟩;rw [code_str,if_neg hg];intro b5;refine⟨_,rest hg b5,fun x hs hq=>?_⟩;obtain⟨rfl,rfl⟩:=hq;refine⟨((sCode (symB 11 [stepB k g,numB n]):Nat):Int),by rw [code_str];rfl,rfl,?_⟩;rw [code_str,lockV,if_neg hg];exact⟨rfl,rfl⟩
 ·refine⟨fun _=>?_,fun h=>absurd (by rw [if_pos hg];decide) h⟩;rw [lockV,if_pos hg,if_pos hg,if_pos hg];exact⟨rfl,rfl⟩
 ·refine⟨fun h=>absurd (by rw [if_neg hg]) h,fun _=>?_⟩;refine⟨_,num_meets b1 n,fun x hs hq=>?_⟩;obtain⟨rfl,rfl⟩:=hq;refine⟨((sCode (numB n):Nat):Int),by rw [code_str];rfl,rfl,?_⟩;rw [code_str,if_neg hg];intro b5;refine⟨_,rest hg b5,fun x hs hq=>?_⟩;obtain⟨rfl,rfl⟩:=hq;refine⟨((sCode (symB 11 [stepB k g,numB n]):Nat):Int),by rw [code_str];rfl,rfl,?_⟩;rw [code_str,lockV,if_neg hg];exact⟨rfl,rfl⟩
theorem lockV_len(k:List UInt8)(g n:Nat)(hl:k.length≤1000000):(lockV k g n).1.length≤2000000:=by
 unfold lockV;have hst:=stepB_len k g;have hnl:=numB_len n;split
 ·simp
 ·have:=symB_len 11 [stepB k g,numB n];simp only [List.flatten_cons,List.flatten_nil,List.append_nil,List.length_append]at this;show(symB 11 [stepB k g,numB n]).length≤_;omega
def frameV(o:Option Di)(g n:Nat)(x:List UInt8):List UInt8×Int:=
 match o with
 | none=>([],6)
 | some d=>if(lockV (sDec d.key) g n).2=0 then(bldB 4 [] [(lockV (sDec d.key) g n).1,x],0)else([],(lockV (sDec d.key) g n).2)
theorem tm_eq(z:Int):(Value.agg #[.string ⟨(strD (srowF z)).toArray⟩])=tv (sDec z):=by rw [srowF,strD_rowS];rfl
theorem frame_meets(b b1:Nat)(m:Me)(v0 v1 v2:V1)(g n:Nat)(x:List UInt8)(hl:m.held.length<4611686018427387904)(hr:Rise m.held)(hk: ∀d,ownOf m=some d→(sDec d.key).length≤1000000)(hx:x.length≤1000000):
  Meets Tryz.prog 17 [.pointer (some ⟨b,0,none⟩),.int .u64 (g:Int),.int .u64 (n:Int),tv x] [mrow b b1 m v0 v1 v2,heldHP true v1 m.held]
   fun r hs=>r= .tuple #[tv (frameV (ownOf m) g n x).1,.int .i64 (frameV (ownOf m) g n x).2]∧hs=[mrow b b1 m v0 v1 v2,heldHP true v1 m.held]:=by
 have base:=mt_frame (fun r hs=>r= .tuple #[tv (frameV (ownOf m) g n x).1,.int .i64 (frameV (ownOf m) g n x).2]∧hs=[mrow b b1 m v0 v1 v2,heldHP true v1 m.held]) m.sf.1 m.sf.2 (bI m.so) m.ep (m.held.length:Int) (g:Int) (n:Int) ((sCode x:Nat):Int) (fun i=>m.g.getD i 0)
  (gF (m.held.map (·.d))) (fF (m.held.map (·.d)) (·.ep)) (fF (m.held.map (·.d)) (·.sa)) (fF (m.held.map (·.d)) (·.sd)) (fF (m.held.map (·.d)) (·.kid)) (fF (m.held.map (·.d)) (·.key)) (hF m.held (·.til)) (hF m.held fun e=>bI e.ends) v0 v1 v2 b b1
 rw [code_str,mR_row,hK_held]at base;refine base ?_;unfold st_frame;rw [code_str,mR_row,hK_held];intro _ _ _;refine⟨_,own_meets b b1 m v0 v1 v2 hl hr,fun y hs hq=>?_⟩;obtain⟨rfl,rfl⟩:=hq;obtain⟨o,ho⟩: ∃o,o=(ownOf m).getD zDi:=⟨_,rfl⟩;refine⟨o.ep,o.sa,o.sd,o.kid,o.key,fun j=>o.g.getD j 0,(ownOf m).isSome,by rw [dV_eq,ho],rfl,?_⟩;intro _;cases hown:ownOf m with
 | none=>exact⟨fun _=>⟨rfl,rfl⟩,fun h=>absurd (by simp) h⟩
 | some d=>
  rw [hown]at ho;simp only [Option.getD_some]at ho;subst ho;refine⟨fun h=>absurd rfl h,fun _=>?_⟩;rw [tm_eq];have hkd:=hk o hown;refine⟨_,lock_meets b b1 m v0 v1 v2 (sDec o.key) g n hkd,fun y hs hq=>?_⟩;obtain⟨rfl,rfl⟩:=hq;refine⟨((sCode (lockV (sDec o.key) g n).1:Nat):Int),_,by rw [code_str];rfl,rfl,?_⟩;rw [code_str];intro _;refine⟨fun h=>?_,fun h=>?_⟩
  ·simp only [frameV,if_neg h];exact⟨rfl,trivial⟩
  ·have h0:(lockV (sDec o.key) g n).2=0:=Classical.not_not.1 h;have hll:=lockV_len (sDec o.key) g n hkd;intro _ _ _;refine⟨_,seal_meets (lockV (sDec o.key) g n).1 x (by omega),fun y hs hq=>?_⟩;obtain⟨rfl,rfl⟩:=hq;refine⟨((sCode (bldB 4 [] [(lockV (sDec o.key) g n).1,x]):Nat):Int),by rw [code_str];rfl,rfl,?_⟩;rw [code_str];simp only [frameV,if_pos h0];exact⟨rfl,trivial⟩
def unframeV(ka:Int×Int)(g n:Nat)(k' x:List UInt8):List UInt8×Int:=
 if ka.2=0 then(if(lockV (sDec ka.1) g n).2=0 then(if k'=(lockV (sDec ka.1) g n).1 then x else [],if k'=(lockV (sDec ka.1) g n).1 then 0 else 140)else lockV (sDec ka.1) g n)else(sDec ka.1,ka.2)
theorem unframe_meets(b b1:Nat)(m:Me)(v0 v1 v2:V1)(s:Int×Int)(ep:Int)(g n:Nat)(k' x:List UInt8)(hl:m.held.length<4611686018427387904)(hk:(sDec (keyAns zC m s ep).1).length≤1000000)(hk':Enc k')(hx:Enc x)(hlx:k'.length+x.length≤100000000):
  Meets Tryz.prog 20 [.pointer (some ⟨b,0,none⟩),.agg #[.int .u8 s.1,.int .u8 s.2],.int .u64 ep,.int .u64 (g:Int),.int .u64 (n:Int),tv (bldB 4 [] [k',x])] [mrow b b1 m v0 v1 v2,heldHP true v1 m.held]
   fun r hs=>r= .tuple #[tv (unframeV (keyAns zC m s ep) g n k' x).1,.int .i64 (unframeV (keyAns zC m s ep) g n k' x).2]∧hs=[mrow b b1 m v0 v1 v2,heldHP true v1 m.held]:=by
 have base:=mt_unframe (fun r hs=>r= .tuple #[tv (unframeV (keyAns zC m s ep) g n k' x).1,.int .i64 (unframeV (keyAns zC m s ep) g n k' x).2]∧hs=[mrow b b1 m v0 v1 v2,heldHP true v1 m.held]) m.sf.1 m.sf.2 (bI m.so) m.ep (m.held.length:Int) s.1 s.2 ep (g:Int) (n:Int) ((sCode (bldB 4 [] [k',x]):Nat):Int) (fun i=>m.g.getD i 0)
  (gF (m.held.map (·.d))) (fF (m.held.map (·.d)) (·.ep)) (fF (m.held.map (·.d)) (·.sa)) (fF (m.held.map (·.d)) (·.sd)) (fF (m.held.map (·.d)) (·.kid)) (fF (m.held.map (·.d)) (·.key)) (hF m.held (·.til)) (hF m.held fun e=>bI e.ends) v0 v1 v2 b b1
 rw [code_str,mR_row,hK_held]at base;refine base ?_;unfold st_unframe;rw [code_str,mR_row,hK_held];intro _ _ _;refine⟨_,key_meets b b1 m v0 v1 v2 s ep hl,fun y hs hq=>?_⟩;obtain⟨rfl,rfl⟩:=hq;obtain⟨ka,hka⟩: ∃ka,ka=keyAns zC m s ep:=⟨_,rfl⟩;rw [←hka]at hk ⊢;refine⟨ka.1,ka.2,by simp only [srowF,strD_rowS,tmV],rfl,?_⟩;rw [tm_eq];intro _;refine⟨fun h=>?_,fun h=>?_⟩
 ·simp only [unframeV,if_neg h];exact⟨trivial,trivial⟩
 ·have h0:ka.2=0:=Classical.not_not.1 h;refine⟨_,lock_meets b b1 m v0 v1 v2 (sDec ka.1) g n hk,fun y hs hq=>?_⟩;obtain⟨rfl,rfl⟩:=hq;refine⟨((sCode (lockV (sDec ka.1) g n).1:Nat):Int),_,by rw [code_str];rfl,rfl,?_⟩;rw [code_str];intro _;refine⟨fun h2=>?_,fun h2=>?_⟩
  ·simp only [unframeV,if_pos h0,if_neg h2];exact⟨rfl,trivial⟩
  ·have h20:(lockV (sDec ka.1) g n).2=0:=Classical.not_not.1 h2;intro _ _ _;refine⟨_,open_meets (lockV (sDec ka.1) g n).1 k' x hk' hx hlx,fun y hs hq=>?_⟩;obtain⟨rfl,rfl⟩:=hq;refine⟨((sCode (if k'=(lockV (sDec ka.1) g n).1 then x else []):Nat):Int),_,by rw [code_str];rfl,rfl,?_⟩;rw [code_str];simp only [unframeV,if_pos h0,if_pos h20];exact⟨rfl,trivial⟩
end Go.RX.Ia

namespace Go.RX.Hi
open Go.RX Go.Proofs
noncomputable def cxL:Ctx:={T:=TT,FT:=FT,loops:=Hi.loops,joins:=Hi.joins,callees:=Hi.callees}
end Go.RX.Hi
