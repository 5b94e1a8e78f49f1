/- What a member tells: its own key (Own), a key (Key), its roster (Roster). · A key some steps on; a frame's key; a member's frames, to and fro. · GroupPlays itself: the executor's context. · The group's functions: what is left to be shown; printed by a program of ours (wip/tools/g8.lean). · The law's own functions: the executor's contexts. · The group's functions: what is left to be shown; printed by a program of ours (wip/tools/g7.lean). · The document's Enter: the executor's context. -/
import Derived.Test.YtfnaoeleljhmhaaGreatM40
import Derived.Test.YtfnaoeleljhmhaaGreatM37
import Derived.Test.YtfnaoeleljhmhaaGreatM38
import Derived.Test.YtfnaoeleljhmhaaGreatM29
import Derived.Test.YtfnaoeleljhmhaaGreatM30

namespace Go.Gp
def ownOf(m:Me):Option Di:=if m.so=true∧holds m.held (kidV m.ep m.sf.1 m.sf.2)=true then(m.held[low m.held (kidV m.ep m.sf.1 m.sf.2)]?).map (·.d)else none
def keyAns(z:Int)(m:Me)(s:Int×Int)(ep:Int):Int×Int:=match Gp.keyOf m.held s ep with
 | some k=>(k,0)
 | none=>(z,if m.so=true∧ep<m.ep then 241 else 240)
end Go.Gp
namespace Go.RX.Gl
open Go Go.RX Go.Proofs Go.Gp Go.RX.Gb Go.RX.Gf
def zC:Int:=((sCode []:Nat):Int)
theorem zC_str:tmV zC= .string ⟨#[]⟩:=by simp [tmV,zC,sDec_code]
def zDi:Di:=⟨List.replicate 16 0,0,0,0,0,zC⟩
theorem zDi_val:(Value.agg (List.append (segCells .u8 16 (fun _=>0)) ([.int .u64 0,.int .u8 0,.int .u8 0,.int .u64 0,.string ⟨#[]⟩])).toArray)= .agg (diC zDi).toArray:=by
 unfold diC zDi;rw [zC_str];congr 3
theorem dV_held(l:List He)(i:Nat)(hi:i<l.length):dV (shiftF (gF (l.map (·.d))) (i*16)) (fF (l.map (·.d)) (·.ep) i) (fF (l.map (·.d)) (·.sa) i) (fF (l.map (·.d)) (·.sd) i) (fF (l.map (·.d)) (·.kid) i) (fF (l.map (·.d)) (·.key) i)= .agg (diC l[i].d).toArray:=by
 rw [dV_at (l.map (·.d)) i (by simpa using hi),List.getElem_map]
theorem own_meets(b b1:Nat)(m:Me)(v0 v1 v2:V1)(hl:m.held.length<4611686018427387904)(hr:Rise m.held):
  Meets Tryz.prog 14 [.pointer (some ⟨b,0,none⟩)] [mrow b b1 m v0 v1 v2,heldHP true v1 m.held]
   fun r hs=>r= .tuple #[.agg (diC ((ownOf m).getD zDi)).toArray,.bool (ownOf m).isSome]∧hs=[mrow b b1 m v0 v1 v2,heldHP true v1 m.held]:=by
 have base:=mt_own (fun r hs=>r= .tuple #[.agg (diC ((ownOf m).getD zDi)).toArray,.bool (ownOf m).isSome]∧hs=[mrow b b1 m v0 v1 v2,heldHP true v1 m.held]) m.sf.1 m.sf.2 (bI m.so) m.ep (m.held.length:Int) 0 (fun i=>m.g.getD i 0)
  (gF (m.held.map (·.d))) (fF (m.held.map (·.d)) (·.ep)) (fF (m.held.map (·.d)) (·.sa)) (fF (m.held.map (·.d)) (·.sd)) (fF (m.held.map (·.d)) (·.kid)) (fF (m.held.map (·.d)) (·.key)) (hF m.held (·.til)) (hF m.held fun e=>bI e.ends) v0 v1 v2 b b1
 rw [mR_row,hK_held]at base;refine base ?_;unfold st_own;rw [mR_row,hK_held,zDi_val];intro _;have none1: ¬(m.so=true∧holds m.held (kidV m.ep m.sf.1 m.sf.2)=true)→ownOf m=none:=fun h=>by rw [ownOf,if_neg h]
 refine⟨fun h=>?_,fun h=>?_⟩
 ·rw [none1 fun h'=>h ((bI_nz _).2 h'.1)];exact⟨rfl,rfl⟩
 have hso:m.so=true:=(bI_nz _).1 (Classical.not_not.1 h);refine⟨_,kid_meets m.ep m.sf.1 m.sf.2,fun x hs hq=>?_⟩;obtain⟨rfl,rfl⟩:=hq;refine⟨_,rfl,rfl,_,find_meets b b1 m v0 v1 v2 _ hl hr,fun x hs hq=>?_⟩;obtain⟨rfl,rfl⟩:=hq;refine⟨_,_,rfl,rfl,fun h2=>?_,fun h2=>?_⟩
 ·rw [none1 fun h'=>h2 h'.2];exact⟨rfl,rfl⟩
 have h2:holds m.held (kidV m.ep m.sf.1 m.sf.2)=true:=Classical.not_not.1 h2;obtain⟨hlt,_⟩:=(holds_at hr).1 h2;refine⟨by omega,fun _=>⟨by omega,fun _=>?_⟩⟩;rw [Int.toNat_natCast,show((low m.held (kidV m.ep m.sf.1 m.sf.2):Int)*16).toNat=low m.held (kidV m.ep m.sf.1 m.sf.2)*16 by omega,dV_held _ _ hlt,ownOf,if_pos ⟨hso,h2⟩,List.getElem?_eq_getElem hlt];exact⟨rfl,rfl⟩
theorem key_meets(b b1:Nat)(m:Me)(v0 v1 v2:V1)(s:Int×Int)(ep:Int)(hl:m.held.length<4611686018427387904):
  Meets Tryz.prog 27 [.pointer (some ⟨b,0,none⟩),.agg #[.int .u8 s.1,.int .u8 s.2],.int .u64 ep] [mrow b b1 m v0 v1 v2,heldHP true v1 m.held]
   fun r hs=>r= .tuple #[.agg #[tmV (keyAns zC m s ep).1],.int .i64 (keyAns zC m s ep).2]∧hs=[mrow b b1 m v0 v1 v2,heldHP true v1 m.held]:=by
 have base:=mt_key (fun r hs=>r= .tuple #[.agg #[tmV (keyAns zC m s ep).1],.int .i64 (keyAns zC m s ep).2]∧hs=[mrow b b1 m v0 v1 v2,heldHP true v1 m.held]) m.sf.1 m.sf.2 (bI m.so) m.ep (m.held.length:Int) s.1 s.2 ep (fun i=>m.g.getD i 0)
  (gF (m.held.map (·.d))) (fF (m.held.map (·.d)) (·.ep)) (fF (m.held.map (·.d)) (·.sa)) (fF (m.held.map (·.d)) (·.sd)) (fF (m.held.map (·.d)) (·.kid)) (fF (m.held.map (·.d)) (·.key)) (hF m.held (·.til)) (hF m.held fun e=>bI e.ends) v0 v1 v2 b b1
 rw [mR_row,hK_held]at base;refine base ?_;unfold st_key;rw [mR_row,hK_held];intro _ _ _;have hat:=diIs_list (m.held.map (·.d));refine⟨by omega,fun _=>⟨fun x=> ∃i:Nat,x=⟨[],[],[(i:Int)],[],[],[],[]⟩∧i≤m.held.length∧∀j,j<i→∀h:j<m.held.length,¬((m.held[j].d.sa,m.held[j].d.sd)=s∧m.held[j].d.ep=ep),
  fun x=>m.held.length - (x.i.getD 0 0).toNat,⟨0,rfl,0,rfl,Nat.zero_le _,fun j hj=>by omega⟩,?_⟩⟩
 rintro x8 ⟨i,he,hi,hb⟩;cases he;refine⟨fun hlt=>⟨by omega,fun _ _=>?_⟩,fun hge=>?_⟩
 ·have hil:i<m.held.length:=by omega
  obtain⟨_,h2,h3,h4,_,h6⟩:=hat i (by simpa using hil);rw [List.getElem_map]at h2 h3 h4 h6;rw [Int.toNat_natCast,h2,h3,h4,h6];refine⟨fun hc=>?_,fun hc=>⟨by omega,fun _=>⟨by omega,fun _=>⟨_,rfl,⟨i+1,rfl,by omega,fun j hj hjl=>?_⟩,?_⟩⟩⟩⟩
  ·have hf:Gp.keyOf m.held s ep=some m.held[i].d.key:=by
    unfold Gp.keyOf;have:(m.held.find? fun h=>decide ((h.d.sa,h.d.sd)=s∧h.d.ep=ep))=some m.held[i]:=by
     rw [List.find?_eq_some_iff_getElem];refine⟨by simpa [Prod.ext_iff] using hc,i,hil,rfl,fun j hj=>?_⟩;have:=hb j hj (by omega);rw [decide_eq_false this];rfl
    rw [this];rfl
   have hk:keyAns zC m s ep=(m.held[i].d.key,0):=by simp only [keyAns,hf]
   rw [hk];exact⟨by simp only [srowF,strD_rowS],rfl⟩
  ·by_cases hji:j=i
   ·subst hji;simpa [Prod.ext_iff] using hc
   ·exact hb j (by omega) hjl
  ·simp only [List.getD_cons_zero];omega
 ·have hie:i=m.held.length:=by omega
  subst hie;have hf:Gp.keyOf m.held s ep=none:=by
   unfold Gp.keyOf;rw [Option.map_eq_none_iff,List.find?_eq_none];intro x hx;obtain⟨j,hj,rfl⟩:=List.getElem_of_mem hx;have:=hb j hj hj;simpa using this
  have hk:keyAns zC m s ep=(zC,if m.so=true∧ep<m.ep then 241 else 240):=by simp only [keyAns,hf]
  rw [hk,bI_nz,zC_str];refine⟨fun h=>?_,fun h=>?_⟩
  ·rw [if_pos h];exact⟨rfl,rfl⟩
  ·rw [if_neg h];exact⟨rfl,rfl⟩
end Go.RX.Gl

namespace Go.RX.Ia
open Go Go.RX Go.Proofs Go.Gp Go.RX.Gb Go.RX.Gf Go.RX.Gl Go.RX.Gr Go.RX.Gq
theorem flat_bld(c:UInt8)(d:List UInt8)(ps:List (List UInt8)):(bldB c d ps).length≤1+d.length+ps.flatten.length:=by
 unfold bldB;split
 ·simp
 ·simp only [List.length_cons,List.length_append];omega
theorem symB_len(c:UInt8)(ps:List (List UInt8)):(symB c ps).length≤20+ps.flatten.length:=by
 have e0:(hashB 1 []).length=10:=rfl;have h:=flat_bld 3 (beB c.toNat++[UInt8.ofNat (hashB 1 []::ps).length]) (hashB 1 []::ps);have e1:(beB c.toNat++[UInt8.ofNat (hashB 1 []::ps).length]).length=9:=rfl;rw [e1,List.flatten_cons,List.length_append,e0]at h;have h':(symB c ps).length≤1+9+(10+ps.flatten.length):=h;omega
def stepB(k:List UInt8):Nat→List UInt8
 | 0=>k
 | n+1=>symB 10 [stepB k n]
theorem stepB_len(k:List UInt8): ∀n,(stepB k n).length≤k.length+20*n
 | 0=>Nat.le_refl _
 | n+1=>by
  have h1:=stepB_len k n;have h2:=symB_len 10 [stepB k n];simp only [List.flatten_cons,List.flatten_nil,List.append_nil]at h2;show(symB 10 [stepB k n]).length≤_;omega
theorem numB_len(n:Nat):(numB n).length≤90:=by
 have:=flat_bld 3 (beB (0:UInt8).toNat++[UInt8.ofNat ((beB n).map fun c=>hashB c []).length]) ((beB n).map fun c=>hashB c []);have e1:(beB (0:UInt8).toNat++[UInt8.ofNat ((beB n).map fun c=>hashB c []).length]).length=9:=rfl;have e2:((beB n).map fun c=>hashB c []).flatten.length=80:=rfl;rw [e1,e2]at this;exact this
theorem step_meets(b:Nat)(k:List UInt8)(g:Nat)(hl:k.length≤1000000):
  Meets Tryz.prog 18 [.iface 135 (.pointer (some ⟨b,0,none⟩)),tv k,.int .u64 (g:Int)] [] fun r hs=>r= .tuple #[tv (if 64<g then []else stepB k g),.int .i64 (if 64<g then 5 else 0)]∧hs=[]:=by
 have base:=mt_step (fun r _=>r= .tuple #[tv (if 64<g then []else stepB k g),.int .i64 (if 64<g then 5 else 0)]) ((sCode k:Nat):Int) (g:Int) b;rw [code_str]at base;refine(base ?_).post fun r hs h=>⟨[],Ent.sub (List.nil_sublist _),h,rfl⟩
 unfold st_step;intro _ _ _;refine⟨fun h=>?_,fun h=>?_⟩
 ·rw [if_pos (by omega),if_pos (by omega)];rfl
 ·refine⟨fun x=> ∃i:Nat,x=⟨[],[],[(i:Int),((sCode (stepB k i):Nat):Int)],[],[],[],[]⟩∧i≤g,fun x=>g - (x.i.getD 0 0).toNat,⟨_,_,rfl,rfl,0,rfl,Nat.zero_le _⟩,?_⟩;rintro x2 x3 ⟨i,he,hi⟩;cases he;have hsl:=stepB_len k i;rw [code_str];refine⟨fun hlt b4=>?_,fun hge=>?_⟩
  ·have hm:=shash_meets b 10 [stepB k i] ⟨.slice (some ⟨b4,0,none⟩) 1 1,rfl⟩ (by simp) (by simp;omega);refine⟨_,hm.pre (Ent.rowLook b4 33 1 [strC (stepB k i)] rfl (by show 1≤maxLen;unfold maxLen;omega)),fun x hs hq=>?_⟩;obtain⟨rfl,rfl⟩:=hq;refine⟨((sCode (stepB k (i+1)):Nat):Int),by rw [code_str];rfl,rfl,_,_,rfl,rfl,⟨i+1,?_,by omega⟩,?_⟩
   ·rw [w64];congr 2;omega
   ·simp only [List.getD_cons_zero];rw [w64];omega
  ·have hie:i=g:=by omega
   subst hie;rw [if_neg (by omega),if_neg (by omega)];rfl
def lockV(k:List UInt8)(g n:Nat):List UInt8×Int:=if 64<g then([],5)else(symB 11 [stepB k g,numB n],0)
theorem lock_meets(b b1:Nat)(m:Me)(v0 v1 v2:V1)(k:List UInt8)(g n:Nat)(hl:k.length≤1000000):
  Meets Tryz.prog 63 [.pointer (some ⟨b,0,none⟩),tv k,.int .u64 (g:Int),.int .u64 (n:Int)] [mrow b b1 m v0 v1 v2] fun r hs=>r= .tuple #[tv (lockV k g n).1,.int .i64 (lockV k g n).2]∧hs=[mrow b b1 m v0 v1 v2]:=by
 have base:=mt_lock (fun r hs=>r= .tuple #[tv (lockV k g n).1,.int .i64 (lockV k g n).2]∧hs=[mrow b b1 m v0 v1 v2]) m.sf.1 m.sf.2 (bI m.so) m.ep ((sCode k:Nat):Int) (g:Int) (n:Int) (fun i=>m.g.getD i 0) v0 v1 v2 b b1;rw [code_str,mR_row]at base;refine base ?_;unfold st_lock;rw [code_str,mR_row];have hst:=stepB_len k g;have hnl:=numB_len n;have rest: ¬64<g→∀b5:Nat,Meets Tryz.prog 255 [.pointer (some ⟨b1,0,none⟩),.int .u8 11,.slice (some ⟨b5,0,none⟩) 2 2] [rowHP b5 true [strC (stepB k g),strC (numB n)]] fun r hs=>r=tv (symB 11 [stepB k g,numB n])∧hs=[]:=fun hg b5=>
  (shash_meets b1 11 [stepB k g,numB n] ⟨.slice (some ⟨b5,0,none⟩) 2 2,rfl⟩ (by simp) (by simp;omega)).pre (Ent.rowLook b5 33 2 [strC (stepB k g),strC (numB n)] rfl (by show 2≤maxLen;unfold maxLen;omega))
 have fin: ∀hs,(.tuple #[tv (if 64<g then []else stepB k g),.int .i64 (if 64<g then 5 else 0)]:Value)=hs→True:=fun _ _=>trivial
 intro _ _;refine⟨⟨_,step_meets b1 k g hl,fun x hs hq=>?_⟩,fun _=>⟨_,step_meets b1 k g hl,fun x hs hq=>?_⟩⟩
 all_goals
  obtain⟨rfl,rfl⟩:=hq;refine⟨((sCode (if 64<g then []else stepB k g):Nat):Int),(if 64<g then 5 else 0),by rw [code_str];rfl,rfl,?_⟩;rw [code_str];by_cases hg:64<g
 ·intro _;refine⟨fun _=>?_,fun h=>absurd (by rw [if_pos hg];decide) h⟩;rw [lockV,if_pos hg,if_pos hg,if_pos hg];exact⟨rfl,rfl⟩
 ·intro _;refine⟨fun h=>absurd (by rw [if_neg hg]) h,fun _=>?_⟩;refine⟨_,num_meets b1 n,fun x hs hq=>?_⟩;obtain⟨rfl,rfl⟩:=hq;refine⟨((sCode (numB n):Nat):Int),by rw [code_str];rfl,rfl,?_⟩;rw [code_str,if_neg hg];intro b5;refine⟨_,rest hg b5,fun x hs hq=>?_⟩;obtain⟨rfl,rfl⟩:=hq;refine⟨((sCode (symB 11 [stepB k g,numB n]):Nat):Int),by rw [code_str];rfl,rfl,?_⟩;rw [code_str,lockV,if_neg hg];exact⟨rfl,rfl⟩
 ·refine⟨fun _=>?_,fun h=>absurd (by rw [if_pos hg];decide) h⟩;rw [lockV,if_pos hg,if_pos hg,if_pos hg];exact⟨rfl,rfl⟩
 ·refine⟨fun h=>absurd (by rw [if_neg hg]) h,fun _=>?_⟩;refine⟨_,num_meets b1 n,fun x hs hq=>?_⟩;obtain⟨rfl,rfl⟩:=hq;refine⟨((sCode (numB n):Nat):Int),by rw [code_str];rfl,rfl,?_⟩;rw [code_str,if_neg hg];intro b5;refine⟨_,rest hg b5,fun x hs hq=>?_⟩;obtain⟨rfl,rfl⟩:=hq;refine⟨((sCode (symB 11 [stepB k g,numB n]):Nat):Int),by rw [code_str];rfl,rfl,?_⟩;rw [code_str,lockV,if_neg hg];exact⟨rfl,rfl⟩
theorem lockV_len(k:List UInt8)(g n:Nat)(hl:k.length≤1000000):(lockV k g n).1.length≤2000000:=by
 unfold lockV;have hst:=stepB_len k g;have hnl:=numB_len n;split
 ·simp
 ·have:=symB_len 11 [stepB k g,numB n];simp only [List.flatten_cons,List.flatten_nil,List.append_nil,List.length_append]at this;show(symB 11 [stepB k g,numB n]).length≤_;omega
def frameV(o:Option Di)(g n:Nat)(x:List UInt8):List UInt8×Int:=
 match o with
 | none=>([],6)
 | some d=>if(lockV (sDec d.key) g n).2=0 then(bldB 4 [] [(lockV (sDec d.key) g n).1,x],0)else([],(lockV (sDec d.key) g n).2)
theorem tm_eq(z:Int):(Value.agg #[.string ⟨(strD (srowF z)).toArray⟩])=tv (sDec z):=by rw [srowF,strD_rowS];rfl
theorem frame_meets(b b1:Nat)(m:Me)(v0 v1 v2:V1)(g n:Nat)(x:List UInt8)(hl:m.held.length<4611686018427387904)(hr:Rise m.held)(hk: ∀d,ownOf m=some d→(sDec d.key).length≤1000000)(hx:x.length≤1000000):
  Meets Tryz.prog 17 [.pointer (some ⟨b,0,none⟩),.int .u64 (g:Int),.int .u64 (n:Int),tv x] [mrow b b1 m v0 v1 v2,heldHP true v1 m.held]
   fun r hs=>r= .tuple #[tv (frameV (ownOf m) g n x).1,.int .i64 (frameV (ownOf m) g n x).2]∧hs=[mrow b b1 m v0 v1 v2,heldHP true v1 m.held]:=by
 have base:=mt_frame (fun r hs=>r= .tuple #[tv (frameV (ownOf m) g n x).1,.int .i64 (frameV (ownOf m) g n x).2]∧hs=[mrow b b1 m v0 v1 v2,heldHP true v1 m.held]) m.sf.1 m.sf.2 (bI m.so) m.ep (m.held.length:Int) (g:Int) (n:Int) ((sCode x:Nat):Int) (fun i=>m.g.getD i 0)
  (gF (m.held.map (·.d))) (fF (m.held.map (·.d)) (·.ep)) (fF (m.held.map (·.d)) (·.sa)) (fF (m.held.map (·.d)) (·.sd)) (fF (m.held.map (·.d)) (·.kid)) (fF (m.held.map (·.d)) (·.key)) (hF m.held (·.til)) (hF m.held fun e=>bI e.ends) v0 v1 v2 b b1
 rw [code_str,mR_row,hK_held]at base;refine base ?_;unfold st_frame;rw [code_str,mR_row,hK_held];intro _ _ _;refine⟨_,own_meets b b1 m v0 v1 v2 hl hr,fun y hs hq=>?_⟩;obtain⟨rfl,rfl⟩:=hq;obtain⟨o,ho⟩: ∃o,o=(ownOf m).getD zDi:=⟨_,rfl⟩;refine⟨o.ep,o.sa,o.sd,o.kid,o.key,fun j=>o.g.getD j 0,(ownOf m).isSome,by rw [dV_eq,ho],rfl,?_⟩;intro _;cases hown:ownOf m with
 | none=>exact⟨fun _=>⟨rfl,rfl⟩,fun h=>absurd (by simp) h⟩
 | some d=>
  rw [hown]at ho;simp only [Option.getD_some]at ho;subst ho;refine⟨fun h=>absurd rfl h,fun _=>?_⟩;rw [tm_eq];have hkd:=hk o hown;refine⟨_,lock_meets b b1 m v0 v1 v2 (sDec o.key) g n hkd,fun y hs hq=>?_⟩;obtain⟨rfl,rfl⟩:=hq;refine⟨((sCode (lockV (sDec o.key) g n).1:Nat):Int),_,by rw [code_str];rfl,rfl,?_⟩;rw [code_str];intro _;refine⟨fun h=>?_,fun h=>?_⟩
  ·simp only [frameV,if_neg h];exact⟨rfl,trivial⟩
  ·have h0:(lockV (sDec o.key) g n).2=0:=Classical.not_not.1 h;have hll:=lockV_len (sDec o.key) g n hkd;intro _ _ _;refine⟨_,seal_meets (lockV (sDec o.key) g n).1 x (by omega),fun y hs hq=>?_⟩;obtain⟨rfl,rfl⟩:=hq;refine⟨((sCode (bldB 4 [] [(lockV (sDec o.key) g n).1,x]):Nat):Int),by rw [code_str];rfl,rfl,?_⟩;rw [code_str];simp only [frameV,if_pos h0];exact⟨rfl,trivial⟩
def unframeV(ka:Int×Int)(g n:Nat)(k' x:List UInt8):List UInt8×Int:=
 if ka.2=0 then(if(lockV (sDec ka.1) g n).2=0 then(if k'=(lockV (sDec ka.1) g n).1 then x else [],if k'=(lockV (sDec ka.1) g n).1 then 0 else 140)else lockV (sDec ka.1) g n)else(sDec ka.1,ka.2)
theorem unframe_meets(b b1:Nat)(m:Me)(v0 v1 v2:V1)(s:Int×Int)(ep:Int)(g n:Nat)(k' x:List UInt8)(hl:m.held.length<4611686018427387904)(hk:(sDec (keyAns zC m s ep).1).length≤1000000)(hk':Enc k')(hx:Enc x)(hlx:k'.length+x.length≤100000000):
  Meets Tryz.prog 20 [.pointer (some ⟨b,0,none⟩),.agg #[.int .u8 s.1,.int .u8 s.2],.int .u64 ep,.int .u64 (g:Int),.int .u64 (n:Int),tv (bldB 4 [] [k',x])] [mrow b b1 m v0 v1 v2,heldHP true v1 m.held]
   fun r hs=>r= .tuple #[tv (unframeV (keyAns zC m s ep) g n k' x).1,.int .i64 (unframeV (keyAns zC m s ep) g n k' x).2]∧hs=[mrow b b1 m v0 v1 v2,heldHP true v1 m.held]:=by
 have base:=mt_unframe (fun r hs=>r= .tuple #[tv (unframeV (keyAns zC m s ep) g n k' x).1,.int .i64 (unframeV (keyAns zC m s ep) g n k' x).2]∧hs=[mrow b b1 m v0 v1 v2,heldHP true v1 m.held]) m.sf.1 m.sf.2 (bI m.so) m.ep (m.held.length:Int) s.1 s.2 ep (g:Int) (n:Int) ((sCode (bldB 4 [] [k',x]):Nat):Int) (fun i=>m.g.getD i 0)
  (gF (m.held.map (·.d))) (fF (m.held.map (·.d)) (·.ep)) (fF (m.held.map (·.d)) (·.sa)) (fF (m.held.map (·.d)) (·.sd)) (fF (m.held.map (·.d)) (·.kid)) (fF (m.held.map (·.d)) (·.key)) (hF m.held (·.til)) (hF m.held fun e=>bI e.ends) v0 v1 v2 b b1
 rw [code_str,mR_row,hK_held]at base;refine base ?_;unfold st_unframe;rw [code_str,mR_row,hK_held];intro _ _ _;refine⟨_,key_meets b b1 m v0 v1 v2 s ep hl,fun y hs hq=>?_⟩;obtain⟨rfl,rfl⟩:=hq;obtain⟨ka,hka⟩: ∃ka,ka=keyAns zC m s ep:=⟨_,rfl⟩;rw [←hka]at hk ⊢;refine⟨ka.1,ka.2,by simp only [srowF,strD_rowS,tmV],rfl,?_⟩;rw [tm_eq];intro _;refine⟨fun h=>?_,fun h=>?_⟩
 ·simp only [unframeV,if_neg h];exact⟨trivial,trivial⟩
 ·have h0:ka.2=0:=Classical.not_not.1 h;refine⟨_,lock_meets b b1 m v0 v1 v2 (sDec ka.1) g n hk,fun y hs hq=>?_⟩;obtain⟨rfl,rfl⟩:=hq;refine⟨((sCode (lockV (sDec ka.1) g n).1:Nat):Int),_,by rw [code_str];rfl,rfl,?_⟩;rw [code_str];intro _;refine⟨fun h2=>?_,fun h2=>?_⟩
  ·simp only [unframeV,if_pos h0,if_neg h2];exact⟨rfl,trivial⟩
  ·have h20:(lockV (sDec ka.1) g n).2=0:=Classical.not_not.1 h2;intro _ _ _;refine⟨_,open_meets (lockV (sDec ka.1) g n).1 k' x hk' hx hlx,fun y hs hq=>?_⟩;obtain⟨rfl,rfl⟩:=hq;refine⟨((sCode (if k'=(lockV (sDec ka.1) g n).1 then x else []):Nat):Int),_,by rw [code_str];rfl,rfl,?_⟩;rw [code_str];simp only [unframeV,if_pos h0,if_pos h20];exact⟨rfl,trivial⟩
end Go.RX.Ia

namespace Go.RX.Hi
open Go.RX Go.Proofs
noncomputable def cxL:Ctx:={T:=TT,FT:=FT,loops:=Hi.loops,joins:=Hi.joins,callees:=Hi.callees}
end Go.RX.Hi

namespace Go.RX.Hi
open Go.RX Go.Proofs Go.RX.Gb
set_option maxRecDepth 100000
def st_k0(Post:PT)(I1j6:Ext→Prop)(x0 x1 x11 x14 x15 x18 x19 x20 x21 x22 x23 x24 x25 x26 x27:Int)(A2 A36 A37 A38 A39 A40 A41 A42 A43 A47 A48 A49 A50 A51 A52 A53 A54 A55 A56 A57 A58 A59 A60 A61 A62 A63 A64 A65:Nat→Int)(v10 v11 v12:V1)(p2:HP):Prop:=
 Need ((¬(x14=x26))∨(0≤x15)) (
 Need ((¬(x14=x26))∨(0≤x27)) (
 Fork ((¬(x14=x26))∨(¬(x15=x27))) (
 Post (.bool false) []) (
 Need (0≤x27) (
 ∃(I2l:Ext→Prop) (m2l:Ext→Nat),(∃x28:Int,x28=0∧I2l ⟨[],[],[x28],[],[],[],[]⟩)∧
 ∀x28:Int,I2l ⟨[],[],[x28],[],[],[],[]⟩→
 Fork (x28<x27) (
 Need (0≤x28) (
 ∀_:Nat,Cl 24 [.agg (rC x18 x19 (!(x20==0)) A47 x21 v10.v v11.v v12.v x22).toArray,.agg #[.int .u8 x0,.int .u8 x1],.int .u64 (A2 (Int.toNat x11))] [rK true v11 x24 A50 A51 A52 A53 A54 A55 A56 A57] fun x hs l=> ∃x29:Int,x= .int .i64 x29∧hs=l∧
 Need ((x29<0)∨(0≤x28)) (
 Need ((x29<0)∨(x28<x15)) (
 Need ((x29<0)∨(0≤x28)) (
 Need ((x29<0)∨(x28<x15)) (
 Need ((x29<0)∨(0≤x28)) (
 Need ((x29<0)∨(x28<x15)) (
 Need (((x29<0)∨(¬(((A36 (Int.toNat x28))=(A64 (Int.toNat x28)))∧((A37 (Int.toNat x28))=(A65 (Int.toNat x28))))))∨(0≤x28)) (
 Need (((x29<0)∨(¬(((A36 (Int.toNat x28))=(A64 (Int.toNat x28)))∧((A37 (Int.toNat x28))=(A65 (Int.toNat x28))))))∨(x28<x15)) (
 Need (((x29<0)∨(¬(((A36 (Int.toNat x28))=(A64 (Int.toNat x28)))∧((A37 (Int.toNat x28))=(A65 (Int.toNat x28))))))∨(0≤x28)) (
 Need (((x29<0)∨(¬(((A36 (Int.toNat x28))=(A64 (Int.toNat x28)))∧((A37 (Int.toNat x28))=(A65 (Int.toNat x28))))))∨(x28<x15)) (
 Need (((x29<0)∨(¬(((A36 (Int.toNat x28))=(A64 (Int.toNat x28)))∧((A37 (Int.toNat x28))=(A65 (Int.toNat x28))))))∨(0≤x28)) (
 Need (((x29<0)∨(¬(((A36 (Int.toNat x28))=(A64 (Int.toNat x28)))∧((A37 (Int.toNat x28))=(A65 (Int.toNat x28))))))∨(x28<x15)) (
 Need (((x29<0)∨(¬(((A36 (Int.toNat x28))=(A64 (Int.toNat x28)))∧((A37 (Int.toNat x28))=(A65 (Int.toNat x28))))))∨(0≤x29)) (
 Need (((x29<0)∨(¬(((A36 (Int.toNat x28))=(A64 (Int.toNat x28)))∧((A37 (Int.toNat x28))=(A65 (Int.toNat x28))))))∨(x29<x24)) (
 Need (((x29<0)∨(¬(((A36 (Int.toNat x28))=(A64 (Int.toNat x28)))∧((A37 (Int.toNat x28))=(A65 (Int.toNat x28))))))∨(0≤x29)) (
 Need (((x29<0)∨(¬(((A36 (Int.toNat x28))=(A64 (Int.toNat x28)))∧((A37 (Int.toNat x28))=(A65 (Int.toNat x28))))))∨(x29<x24)) (
 Need (((x29<0)∨(¬(((A36 (Int.toNat x28))=(A64 (Int.toNat x28)))∧((A37 (Int.toNat x28))=(A65 (Int.toNat x28))))))∨(0≤x29)) (
 Need (((x29<0)∨(¬(((A36 (Int.toNat x28))=(A64 (Int.toNat x28)))∧((A37 (Int.toNat x28))=(A65 (Int.toNat x28))))))∨(x29<x24)) (
 Fork (¬((x29<0)∨(¬(((A36 (Int.toNat x28))=(A64 (Int.toNat x28)))∧((A37 (Int.toNat x28))=(A65 (Int.toNat x28))))))) (
 Cl 12 [.agg (List.append (segCells .u8 16 (shiftF A50 (Int.toNat (x29*16)))) ([.int .u64 (A51 (Int.toNat x29)),.int .u8 (A52 (Int.toNat x29)),.int .u8 (A53 (Int.toNat x29)),.int .u64 (A54 (Int.toNat x29)),.int .u64 (A55 (Int.toNat x29))])).toArray] [] fun x hs l=> ∃(x30 x31 x32 x33 x34:Int) (A66:Nat→Int),x=(dV A66 x30 x31 x32 x33 x34)∧hs=[]∧
 Fork (¬((∀j,j<16→(shiftF A38 (Int.toNat (x28*16))) j=A66 j)∧(((A39 (Int.toNat x28))=x30)∧(((A40 (Int.toNat x28))=x31)∧(((A41 (Int.toNat x28))=x32)∧(((A42 (Int.toNat x28))=x33)∧(strD (srowF (A43 (Int.toNat x28)))=strD (srowF x34)))))))) (
 Post (.bool false) []) (
 I64 (x28+1) ((
 ∃x28':Int,x28'=(x28+1)∧I2l ⟨[],[],[x28'],[],[],[],[]⟩∧m2l ⟨[],[],[x28'],[],[],[],[]⟩<m2l ⟨[],[],[x28],[],[],[],[]⟩)))) (
 Post (.bool false) []))))))))))))))))))))) (
 ∃(v7' v8' v9':V1) (x12' x13' x14' x15' x16' x17' x18' x19':Int) (A33' A34' A35' A36' A37' A38' A39' A40' A41' A42' A43' A44' A45' A46' A47' A48' A49':Nat→Int),∃p2':HP,x12'=x18∧x13'=x19∧(!(x14'==0))=(!(x20==0))∧(∀j,j<16→A33' j=A47 j)∧x15'=x21∧v7'=v10∧v8'=v11∧v9'=v12∧x16'=x22∧p2'=p2∧v7'=v10∧x17'=x23∧(∀j,j<(Int.toNat x17')→A34' j=A48 j)∧(∀j,j<(Int.toNat x17')→A35' j=A49 j)∧v8'=v11∧x18'=x24∧(∀j,j<(Int.toNat (x18'*16))→A36' j=A50 j)∧(∀j,j<(Int.toNat x18')→A37' j=A51 j)∧(∀j,j<(Int.toNat x18')→A38' j=A52 j)∧(∀j,j<(Int.toNat x18')→A39' j=A53 j)∧(∀j,j<(Int.toNat x18')→A40' j=A54 j)∧(∀j,j<(Int.toNat x18')→A41' j=A55 j)∧(∀j,j<(Int.toNat x18')→A42' j=A56 j)∧(∀j,j<(Int.toNat x18')→A43' j=A57 j)∧v9'=v12∧x19'=x25∧(∀j,j<(Int.toNat (x19'*16))→A44' j=A58 j)∧(∀j,j<(Int.toNat x19')→A45' j=A59 j)∧(∀j,j<(Int.toNat x19')→A46' j=A60 j)∧(∀j,j<(Int.toNat x19')→A47' j=A61 j)∧(∀j,j<(Int.toNat x19')→A48' j=A62 j)∧(∀j,j<(Int.toNat x19')→A49' j=A63 j)∧I1j6 ⟨[],[v7',v8',v9'],[x12',x13',x14',x15',x16',x17',x18',x19'],[A33',A34',A35',A36',A37',A38',A39',A40',A41',A42',A43',A44',A45',A46',A47',A48',A49'],[],[p2'],[]⟩)))))
end Go.RX.Hi

namespace Go.RX.He
open Go.RX Go.Proofs
noncomputable def cxB'(l:List Nat):Ctx:={T:=TT,FT:=FT,loops:=He.loops,callees:=He.calleesBut l,ghosts:=He.ghosts}
noncomputable abbrev cxA:=cxB' [12]
noncomputable abbrev cxB:=cxB' [10]
noncomputable abbrev cxC:=cxB' [55]
noncomputable abbrev cxD:=cxB' [70]
noncomputable abbrev cxE:=cxB' [111]
noncomputable abbrev cxF:=cxB' [8]
noncomputable abbrev cxG:=cxB' [29]
end Go.RX.He

namespace Go.RX.He
open Go.RX Go.Proofs Go.RX.Gb
set_option maxRecDepth 100000
def st_real(Post:PT)(x0 x1 x2 x3 x4:Int)(A0:Nat→Int):Prop:=
 ∀b0 b1:Nat,Cl 16 [.int .u64 x4] [] fun x hs l=> ∃x5:Int,x= .agg #[.string ⟨(strD (srowF x5)).toArray⟩]∧hs=[]∧
 Post (dV A0 x0 x1 x2 x3 x5) [rowHP b0 true (List.append (segCells .u8 16 A0) ([.int .u64 x0,.int .u8 x1,.int .u8 x2,.int .u64 x3,.int .u64 x4])),rowHP b1 true (List.append (segCells .u8 16 A0) ([.int .u64 x0,.int .u8 x1,.int .u8 x2,.int .u64 x3,.string ⟨(strD (srowF x5)).toArray⟩]))]
theorem mt_real(Post:PT)(x0 x1 x2 x3 x4:Int)(A0:Nat→Int)(h:st_real Post x0 x1 x2 x3 x4 A0):Meets Tryz.prog 12 [.agg (List.append (segCells .u8 16 A0) ([.int .u64 x0,.int .u8 x1,.int .u8 x2,.int .u64 x3,.int .u64 x4])).toArray] [] Post:=
 mtI (C:=cxA) [.agg [.seg .u8 16 (.avar 0),.int .u64 (.var 0),.int .u8 (.var 1),.int .u8 (.var 2),.int .u64 (.var 3),.int .u64 (.var 4)]] [] ⟨0,0,5,1,0,0,0⟩ ⟨[x0,x1,x2,x3,x4],[A0],[],[],[],[],[],[]⟩ Tryz.func12 (by kernel_rfl) h
def st_of(Post:PT)(x0 x1 x2 x3 x4 x5 x6 x7 x8 x9 x10 x11 x12 x13:Int)(A0 A1:Nat→Int):Prop:=
 ∀(b0 b1:Nat) (v0:V1),∃(I0x0:Ext→Prop) (m0x0:Ext→Nat),(∃(x14:Int) (A2:Nat→Int),x14=0∧(∀j,j<32→A2 j=(fun _=>0) j)∧I0x0 ⟨[],[],[x14],[A2],[],[],[]⟩)∧
 ∀(x14:Int) (A2:Nat→Int),I0x0 ⟨[],[],[x14],[A2],[],[],[]⟩→
 Fork (x14<32) (
 Fork ((iop .band .u32 (iop .shr .u32 x1 x14) 1)=1) (
 Need (0≤x14) (
 I64 (x14+1) ((
 ∃(x14':Int) (A2':Nat→Int),x14'=(x14+1)∧(∀j,j<32→A2' j=(updF A2 (Int.toNat x14) 1) j)∧I0x0 ⟨[],[],[x14'],[A2'],[],[],[]⟩∧m0x0 ⟨[],[],[x14'],[A2'],[],[],[]⟩<m0x0 ⟨[],[],[x14],[A2],[],[],[]⟩)))) (
 Need (0≤x14) (
 I64 (x14+1) ((
 ∃(x14':Int) (A2':Nat→Int),x14'=(x14+1)∧(∀j,j<32→A2' j=(updF A2 (Int.toNat x14) 0) j)∧I0x0 ⟨[],[],[x14'],[A2'],[],[],[]⟩∧m0x0 ⟨[],[],[x14'],[A2'],[],[],[]⟩<m0x0 ⟨[],[],[x14],[A2],[],[],[]⟩))))) (
 Cl 55 [v0.v] [sliHP true 4 1 v0.v 32 (tabL 32 [colB 1 A2])] fun x hs l=> ∃(v1:V1) (x15:Int) (A3 A4:Nat→Int),x=v1.v∧hs=l++[dK true v1 x15 A3 A4]∧
 Post (.agg (List.append (segCells .u8 16 A0) ([.int .u64 x2,v1.v])).toArray) [rowHP b0 true (.int .u8 x0::(.int .u32 x1::(.int .u64 x2::(List.append (segCells .u8 16 A0) (.int .u64 x3::(List.append (segCells .u8 16 A1) ([.int .u64 x4,.int .u8 x5,.int .u8 x6,.int .u64 x7,.int .u64 x8,.int .u8 x9,.int .u8 x10,.int .u64 x11,.int .u64 x12,.int .u64 x13]))))))),rowHP b1 true (List.append (segCells .u8 16 A0) ([.int .u64 x2,v1.v])),sliHP true 4 1 v0.v 32 (tabL 32 [colB 1 A2]),dK true v1 x15 A3 A4])
theorem mt_of(Post:PT)(x0 x1 x2 x3 x4 x5 x6 x7 x8 x9 x10 x11 x12 x13:Int)(A0 A1:Nat→Int)(h:st_of Post x0 x1 x2 x3 x4 x5 x6 x7 x8 x9 x10 x11 x12 x13 A0 A1):Meets Tryz.prog 10 [.agg (.int .u8 x0::(.int .u32 x1::(.int .u64 x2::(List.append (segCells .u8 16 A0) (.int .u64 x3::(List.append (segCells .u8 16 A1) ([.int .u64 x4,.int .u8 x5,.int .u8 x6,.int .u64 x7,.int .u64 x8,.int .u8 x9,.int .u8 x10,.int .u64 x11,.int .u64 x12,.int .u64 x13]))))))).toArray] [] Post:=
 mtI (C:=cxB) [.agg [.int .u8 (.var 0),.int .u32 (.var 1),.int .u64 (.var 2),.seg .u8 16 (.avar 0),.int .u64 (.var 3),.seg .u8 16 (.avar 1),.int .u64 (.var 4),.int .u8 (.var 5),.int .u8 (.var 6),.int .u64 (.var 7),.int .u64 (.var 8),.int .u8 (.var 9),.int .u8 (.var 10),.int .u64 (.var 11),.int .u64 (.var 12),.int .u64 (.var 13)]] [] ⟨0,0,14,2,0,0,0⟩ ⟨[x0,x1,x2,x3,x4,x5,x6,x7,x8,x9,x10,x11,x12,x13],[A0,A1],[],[],[],[],[],[]⟩ Tryz.func10 (by kernel_rfl) h
def st_list(Post:PT)(A0:Nat→Int)(v0:V1):Prop:=
 ∃(I0x0:Ext→Prop) (m0x0:Ext→Nat),(∃(v2:V1) (x0 x1:Int) (A1 A2:Nat→Int),x0=0∧v2=(⟨.slice none 0 0,rfl⟩:V1)∧v2=(⟨.slice none 0 0,rfl⟩:V1)∧x1=0∧(∀j,j<(Int.toNat x1)→A1 j=(fun _=>0) j)∧(∀j,j<(Int.toNat x1)→A2 j=(fun _=>0) j)∧I0x0 ⟨[],[v2],[x0,x1],[A1,A2],[],[],[]⟩)∧
 ∀(v2:V1) (x0 x1:Int) (A1 A2:Nat→Int),I0x0 ⟨[],[v2],[x0,x1],[A1,A2],[],[],[]⟩→
 Fork (x0<32) (
 Need (0≤x0) (
 Fork ((A0 (Int.toNat x0))≠0) (
 ∀_:Nat,Need (0≤x1) (
 U47 ((x1+1)*2) (
 ∀v3:V1,I64 (x0+1) ((
 ∃(v2':V1) (x0' x1':Int) (A1' A2':Nat→Int),x0'=(x0+1)∧v2'=v3∧v2'=v3∧x1'=(x1+1)∧(∀j,j<(Int.toNat x1')→A1' j=(updF A1 (Int.toNat x1) (IntKind.wrap .u8 (IntKind.wrap .i64 (iop .quo .i64 x0 4)))) j)∧(∀j,j<(Int.toNat x1')→A2' j=(updF A2 (Int.toNat x1) (IntKind.wrap .u8 (iop .rem .i64 x0 4))) j)∧I0x0 ⟨[],[v2'],[x0',x1'],[A1',A2'],[],[],[]⟩∧m0x0 ⟨[],[v2'],[x0',x1'],[A1',A2'],[],[],[]⟩<m0x0 ⟨[],[v2],[x0,x1],[A1,A2],[],[],[]⟩))))) (
 I64 (x0+1) ((
 ∃(v2':V1) (x0' x1':Int) (A1' A2':Nat→Int),x0'=(x0+1)∧v2'=v2∧v2'=v2∧x1'=x1∧(∀j,j<(Int.toNat x1')→A1' j=A1 j)∧(∀j,j<(Int.toNat x1')→A2' j=A2 j)∧I0x0 ⟨[],[v2'],[x0',x1'],[A1',A2'],[],[],[]⟩∧m0x0 ⟨[],[v2'],[x0',x1'],[A1',A2'],[],[],[]⟩<m0x0 ⟨[],[v2],[x0,x1],[A1,A2],[],[],[]⟩))))) (
 Post (v2.v) [sliHP true 4 1 v0.v 32 (tabL 32 [colB 1 A0]),dK true v2 x1 A1 A2])
theorem mt_list(Post:PT)(A0:Nat→Int)(v0:V1)(h:st_list Post A0 v0):Meets Tryz.prog 55 [v0.v] [sliHP true 4 1 v0.v 32 (tabL 32 [colB 1 A0])] Post:=
 mtI (C:=cxC) He.listA He.listHp He.listCnt ⟨[],[A0],[],[],[v0],[],[],[]⟩ Tryz.func55 (by kernel_rfl) h
def st_new(Post:PT)(x0 x1 x2:Int)(b0:Nat):Prop:=
 ∀b1 b2:Nat,Post (.pointer (some ⟨b2,0,none⟩)) [rowHP b0 true ([.int .u64 x2]),rowHP b1 true ([.int .u8 x0,.int .u8 x1]),mS b2 b0 x0 x1 false (fun _=>0) 0 (.slice none 0 0) (.slice none 0 0) (.slice none 0 0)]
theorem mt_new(Post:PT)(x0 x1 x2:Int)(b0:Nat)(h:st_new Post x0 x1 x2 b0):Meets Tryz.prog 8 [(.iface 135 (.pointer (some ⟨b0,0,none⟩))),.agg #[.int .u8 x0,.int .u8 x1]] [rowHP b0 true ([.int .u64 x2])] Post:=
 mtI (C:=cxF) He.newA He.newHp He.newCnt ⟨[x0,x1,x2],[],[],[b0],[],[],[],[]⟩ Tryz.func8 (by kernel_rfl) h
def st_sym(Post:PT)(x0:Int):Prop:=
 ∀b0:Nat,Post ((.iface 135 (.pointer (some ⟨b0,0,none⟩)))) [rowHP b0 true ([.int .u64 x0])]
theorem mt_sym(Post:PT)(x0:Int)(h:st_sym Post x0):Meets Tryz.prog 7 [.int .u64 x0] [] Post:=
 mtI (C:=cxF) [.int .u64 (.var 0)] [] ⟨0,0,1,0,0,0,0⟩ ⟨[x0],[],[],[],[],[],[],[]⟩ Tryz.func7 (by kernel_rfl) h
end Go.RX.He

namespace Go.RX.Ha
open Go.RX Go.Proofs
noncomputable def cxE:Ctx:={T:=TT,FT:=FT,loops:=Ha.loops,callees:=Ha.callees}
end Go.RX.Ha
