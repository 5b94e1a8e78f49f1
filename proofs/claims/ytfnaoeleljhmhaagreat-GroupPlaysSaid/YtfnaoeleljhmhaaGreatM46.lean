/- The chapter's rows (known): they hold. · The chapter's rows (known): the function answers true. · A reflective symbolic executor: arguments that are slices of structs of integers and bools, structs within structs too. -/
import Derived.Test.YtfnaoeleljhmhaaGreatM27
import Derived.Test.YtfnaoeleljhmhaaGreatM36
import Derived.Test.YtfnaoeleljhmhaaGreatHkL
import Derived.Test.YtfnaoeleljhmhaaGreatM25
import Derived.ChangeArms
import Derived.ChangeSame
import Derived.DataReads

namespace Go.RX.Ja
open Go Go.RX Go.Proofs Go.Gp Go.RX.Gb Go.RX.Gf Go.RX.Gl Go.RX.Gu Go.RX.Gr Go.RX.Ha Go.RX.He Go.RX.Hi Go.RX.Ia
theorem enc_hashB(c:UInt8)(ps:List (List UInt8))(h: ∀p∈ps,Enc p)(hn:ps.length<256):Enc (hashB c ps):=by
 have:hashB c ps=3::((beB c.toNat++[UInt8.ofNat ps.length])++ps.flatten):=by
  unfold hashB bldB;rw [if_neg fun h0=>absurd (enc_pos (h _ h0)) (by decide)]
 rw [this];exact Enc.hash (beB c.toNat) rfl ps hn h
theorem enc_symB(c:UInt8)(ps:List (List UInt8))(h: ∀p∈ps,Enc p)(hn:ps.length<255):Enc (symB c ps):=by
 refine enc_hashB c _ (fun p hp=>?_) (by simp;omega);rcases List.mem_cons.1 hp with rfl | hp
 ·exact enc_hashB 1 [] (fun _ h=>by cases h) (by decide)
 ·exact h p hp
theorem enc_stepB{k:List UInt8}(h:Enc k): ∀n,Enc (stepB k n)
 | 0=>h
 | n+1=>enc_symB 10 _ (fun p hp=>by rw [List.mem_singleton.1 hp];exact enc_stepB h n) (by simp)
theorem enc_numB(n:Nat):Enc (numB n):=enc_hashB 0 _ (fun p hp=>by
 obtain⟨c,_,rfl⟩:=List.mem_map.1 hp;exact enc_hashB c [] (fun _ h=>by cases h) (by decide)) (by rw [List.length_map];show 8<256;omega)
theorem enc_atomB(n:Nat):Enc (atomB n):=Enc.atom (beB n) rfl
theorem enc_lock{k:List UInt8}(h:Enc k)(g n:Nat):Enc (symB 11 [stepB k g,numB n]):=
 enc_symB 11 _ (fun p hp=>by
  simp only [List.mem_cons,List.not_mem_nil,or_false]at hp;rcases hp with rfl | rfl
  ·exact enc_stepB h g
  ·exact enc_numB n) (by simp)
theorem Ent.rowDev(b:Nat)(l:List (Int×Int))(hl:l.length≤1000000):Ent [rowHP b true (l.flatMap dvC)] [devHP true ⟨.slice (some ⟨b,0,none⟩) l.length l.length,rfl⟩ l]:=by
 have hlen:(l.flatMap dvC).length=l.length*2:=by
  induction l with
  | nil=>rfl
  | cons a r ih=>
   have:=ih (by simp only [List.length_cons]at hl;omega);simp only [List.flatMap_cons,List.length_append,List.length_cons,this,dvC,List.length_nil];omega
 refine Ent.put 0 _ _ rfl (fun _=>rfl) fun w S hp=>⟨S,fun _ h=>h,?_⟩
 obtain⟨hS,ty,fz,hb,hf⟩:=hp;have:=hf rfl;subst this;unfold devHP sliHP;simp only [if_true];have hown:w.ownsAt 23 2 (.slice (some ⟨b,0,none⟩) l.length l.length) l.length (l.flatMap dvC):=by
  refine⟨by omega,.inr ⟨b,0,l.length,_,rfl,⟨ty,_,hb,.zero (.inr fun u hu=>?_)⟩,Nat.le_refl _,by unfold maxLen;omega,fun _=>by simp [hlen],by rw [List.drop_zero,List.take_of_length_le (by simp [hlen])]⟩⟩;obtain⟨p,_,hp⟩:=List.mem_flatMap.1 hu;simp only [dvC,List.mem_cons,List.not_mem_nil,or_false]at hp;rcases hp with rfl | rfl<;>rfl
 refine⟨hown,fun k=>?_⟩;rw [hS k];exact⟨fun h=>⟨by simp only [Value.ownBlock,h],.inl trivial⟩,fun h=>by have h:=h.1;simp only [Value.ownBlock,Option.some.injEq]at h;exact h.symm⟩
def g1:List Int:=1::List.replicate 15 0
def mem2:List (Int×Int):=[(0,0),(0,1)]
theorem two_known:Meets Tryz.prog 38 [] [] fun r hs=> ∃(b0 b1:Nat) (u:V1),r= .tuple #[.pointer (some ⟨b0,0,none⟩),.pointer (some ⟨b1,0,none⟩),rosV g1 2 u.v]∧hs=[MP b0 ((newM (0,0)).kf kA) 4294967296,MP b1 ((newM (0,1)).kf kA) 8589934592,devHP true u mem2]:=by
 refine(mt_twoM (fun r hs=> ∃(b0 b1:Nat) (u:V1),r= .tuple #[.pointer (some ⟨b0,0,none⟩),.pointer (some ⟨b1,0,none⟩),rosV g1 2 u.v]∧∃hs',Ent hs hs'∧hs'=[MP b0 ((newM (0,0)).kf kA) 4294967296,MP b1 ((newM (0,1)).kf kA) 8589934592,devHP true u mem2]) ?_).post fun r hs ⟨c0,c1,u,h1,hs',h2,h3⟩=>⟨hs',h2,c0,c1,u,h1,h3⟩
 unfold st_twoM;intro b0 b1 b2 b3;refine⟨_,sym_meets 4294967296,fun x hs hq=>?_⟩;obtain⟨b4,rfl,rfl⟩:=hq;refine⟨b4,4294967296,rfl,rfl,?_⟩;intro b5;refine⟨_,mp_new b4 (0,0) 4294967296,fun x hs hq=>?_⟩;obtain⟨b6,rfl,rfl⟩:=hq;refine⟨b6,_,rfl,rfl,?_⟩;refine⟨_,sym_meets 8589934592,fun x hs hq=>?_⟩;obtain⟨b7,rfl,rfl⟩:=hq;refine⟨b7,8589934592,rfl,rfl,?_⟩;intro b8;refine⟨_,mp_new b7 (0,1) 8589934592,fun x hs hq=>?_⟩;obtain⟨b9,rfl,rfl⟩:=hq;refine⟨b9,_,rfl,rfl,?_⟩;refine⟨b6,b9,⟨.slice (some ⟨b3,0,none⟩) 2 2,rfl⟩,rfl,_,?_,rfl⟩;refine Ent.trans (Ent.pick (b:=[rowHP b3 true (mem2.flatMap dvC),MP b6 ((newM (0,0)).kf kA) 4294967296,MP b9 ((newM (0,1)).kf kA) 8589934592]) [3,4,6] (by decide) rfl) ?_;refine Ent.trans (Ent.frame (Ent.rowDev b3 mem2 (by decide)) [MP b6 ((newM (0,0)).kf kA) 4294967296,MP b9 ((newM (0,1)).kf kA) 8589934592]) ?_;exact Ent.pick [1,2,0] (by decide) rfl
theorem mp_own(b:Nat)(m:Me)(nx:Nat)(n:Nat)(hw:Wf OkK n m)(hn:n≤1000):
  Meets Tryz.prog 14 [.pointer (some ⟨b,0,none⟩)] [MP b (m.kf kA) nx] fun r hs=>r= .tuple #[.agg (diC ((ownOf (m.kf kA)).getD zDi)).toArray,.bool (ownOf (m.kf kA)).isSome]∧hs=[MP b (m.kf kA) nx]:=by
 refine mp_open (R:=[]) fun b1 v0 v1 v2=>?_
 have hl:(m.kf kA).held.length=m.held.length:=List.length_map _;have hlen:=hw.len;have hw2:=wf_kf (f:=kA) (Q:=fun _=>True) (fun _ _=>trivial) hw;have base:=(own_meets b b1 (m.kf kA) v0 v1 v2 (by omega) hw2.rise).frame [devHP true v0 m.mem,waitHP true v2 (m.kf kA).wait,rowHP b1 true [.int .u64 (nx:Int)]];refine(base.pre (pre:=mpL b b1 (m.kf kA) v0 v1 v2 nx++[]) (Ent.pick [0,2,1,3,4] (by decide) rfl)).post fun r hs h=>?_
 obtain⟨hs0,rfl,rfl,rfl⟩:=h;exact⟨_,Ent.trans (Ent.pick (b:=mpL b b1 (m.kf kA) v0 v1 v2 nx++[]) [0,2,1,3,4] (by decide) rfl) (mp_shut b b1 _ v0 v1 v2 nx []),rfl,rfl⟩
theorem key_len{m:Me}{n:Nat}(hw:Wf OkK n m){d:Di}(h:ownOf (m.kf kA)=some d):(sDec d.key).length≤1000000:=by
 rw [ownOf_kf]at h;obtain⟨d0,_,rfl⟩:=Option.map_eq_some_iff.1 h;show(sDec (kA d0.key)).length≤_;rw [kA,keyC,sDec_code];show 9≤1000000;omega
theorem mp_frame(b:Nat)(m:Me)(nx:Nat)(g k:Nat)(x:List UInt8)(n:Nat)(hw:Wf OkK n m)(hn:n≤1000)(hx:x.length≤1000000):
  Meets Tryz.prog 17 [.pointer (some ⟨b,0,none⟩),.int .u64 (g:Int),.int .u64 (k:Int),tv x] [MP b (m.kf kA) nx] fun r hs=>r= .tuple #[tv (frameV (ownOf (m.kf kA)) g k x).1,.int .i64 (frameV (ownOf (m.kf kA)) g k x).2]∧hs=[MP b (m.kf kA) nx]:=by
 refine mp_open (R:=[]) fun b1 v0 v1 v2=>?_
 have hl:(m.kf kA).held.length=m.held.length:=List.length_map _;have hlen:=hw.len;have hw2:=wf_kf (f:=kA) (Q:=fun _=>True) (fun _ _=>trivial) hw;have base:=(frame_meets b b1 (m.kf kA) v0 v1 v2 g k x (by omega) hw2.rise (fun d h=>key_len hw h) hx).frame [devHP true v0 m.mem,waitHP true v2 (m.kf kA).wait,rowHP b1 true [.int .u64 (nx:Int)]];refine(base.pre (pre:=mpL b b1 (m.kf kA) v0 v1 v2 nx++[]) (Ent.pick [0,2,1,3,4] (by decide) rfl)).post fun r hs h=>?_
 obtain⟨hs0,rfl,rfl,rfl⟩:=h;exact⟨_,Ent.trans (Ent.pick (b:=mpL b b1 (m.kf kA) v0 v1 v2 nx++[]) [0,2,1,3,4] (by decide) rfl) (mp_shut b b1 _ v0 v1 v2 nx []),rfl,rfl⟩
theorem mp_unframe(b:Nat)(m:Me)(nx:Nat)(s:Int×Int)(ep:Int)(g k:Nat)(k' x:List UInt8)(n:Nat)(hw:Wf OkK n m)(hn:n≤1000)(hk:(sDec (keyAns zC (m.kf kA) s ep).1).length≤1000000)(hk':Enc k')(hx:Enc x)(hlx:k'.length+x.length≤100000000):
  Meets Tryz.prog 20 [.pointer (some ⟨b,0,none⟩),.agg #[.int .u8 s.1,.int .u8 s.2],.int .u64 ep,.int .u64 (g:Int),.int .u64 (k:Int),tv (bldB 4 [] [k',x])] [MP b (m.kf kA) nx]
   fun r hs=>r= .tuple #[tv (unframeV (keyAns zC (m.kf kA) s ep) g k k' x).1,.int .i64 (unframeV (keyAns zC (m.kf kA) s ep) g k k' x).2]∧hs=[MP b (m.kf kA) nx]:=by
 refine mp_open (R:=[]) fun b1 v0 v1 v2=>?_
 have hl:(m.kf kA).held.length=m.held.length:=List.length_map _;have hlen:=hw.len;have base:=(unframe_meets b b1 (m.kf kA) v0 v1 v2 s ep g k k' x (by omega) hk hk' hx hlx).frame [devHP true v0 m.mem,waitHP true v2 (m.kf kA).wait,rowHP b1 true [.int .u64 (nx:Int)]];refine(base.pre (pre:=mpL b b1 (m.kf kA) v0 v1 v2 nx++[]) (Ent.pick [0,2,1,3,4] (by decide) rfl)).post fun r hs h=>?_
 obtain⟨hs0,rfl,rfl,rfl⟩:=h;exact⟨_,Ent.trans (Ent.pick (b:=mpL b b1 (m.kf kA) v0 v1 v2 nx++[]) [0,2,1,3,4] (by decide) rfl) (mp_shut b b1 _ v0 v1 v2 nx []),rfl,rfl⟩
end Go.RX.Ja

namespace Go.RX.Ja
open Go Go.RX Go.Proofs Go.Gp Go.RX.Gb Go.RX.Gf Go.RX.Gl Go.RX.Gu Go.RX.Gr Go.RX.Ha Go.RX.He Go.RX.Hi Go.RX.Ia
def m0:Me:=newM (0,0)
def m1:Me:=newM (0,1)
def ea:Int×Me×List (Int×Int)×Bool:=enter m0 g1 2 mem2 5 4294967296
def d0:Di:=ownD m0 g1 2 4294967296
def d1:Di:={d0 with key:=1}
def mb1:Me:=took m1 d0
def eb:Int×Me×List (Int×Int)×Bool:=enter mb1 g1 2 mem2 5 8589934592
def mb2:Me:=took eb.2.1 d1
theorem f_ea:ea.1=0∧ea.2.2.1=[(0,1)]∧ownOf ea.2.1=some d0∧d0.kid=64:=by decide
theorem f_ea4:ea.2.2.2=true:=by decide
theorem f_t0:(take m1 d0).1=0:=by decide
theorem f_eb:eb.1=0:=by decide
theorem f_k:keyAns 0 eb.2.1 (0,0) 2=(4294967296,0)∧keyAns 0 eb.2.1 (0,0) 1=(0,241)∧keyAns 0 eb.2.1 (0,2) 2=(0,240):=by decide
theorem f_t1:(take eb.2.1 d1).1=6:=by decide
theorem f_k2:keyAns 0 mb2 (0,0) 2=(4294967296,0):=by decide
theorem ok_d0:OkK d0:=⟨⟨rfl,by decide,by decide,by decide,by decide⟩,by decide,by decide⟩
theorem ok_d1:OkK d1:=⟨⟨rfl,by decide,by decide,by decide,by decide⟩,by decide,by decide⟩
theorem ok_e:OkK (ownD mb1 g1 2 8589934592):=⟨⟨rfl,by decide,by decide,by decide,by decide⟩,by decide,by decide⟩
theorem w_m0:Wf OkK 0 m0:=(inv_new (0,0) (by decide)).wf
theorem w_m1:Wf OkK 0 m1:=(inv_new (0,1) (by decide)).wf
theorem w_ea:Wf OkK 1 ea.2.1:=enter_wf okk_pos w_m0 g1 2 mem2 5 4294967296 ok_d0
theorem w_mb1:Wf OkK 1 mb1:=took_wf w_m1 ok_d0
theorem w_eb:Wf OkK 2 eb.2.1:=enter_wf okk_pos w_mb1 g1 2 mem2 5 8589934592 ok_e
theorem w_mb2:Wf OkK 3 mb2:=took_wf w_eb ok_d1
theorem g_eb:eb.2.1.so=true→eb.2.1.g.length=16:=fun _=>by decide
theorem key_relW{n:Nat}{m:Me}(h:Wf OkK n m)(p:Int×Int)(ep:Int):
  (keyAns zC (m.kf kA) p ep).2=(keyAns 0 m p ep).2∧((keyAns 0 m p ep).2=0→(keyAns zC (m.kf kA) p ep).1=kA (keyAns 0 m p ep).1):=by
 have hk:Gp.keyOf (m.kf kA).held p ep=(Gp.keyOf m.held p ep).map kA:=keyOf_kf kA m.held p ep;unfold keyAns;rw [hk];cases hf:Gp.keyOf m.held p ep with
 | none=>
  refine⟨rfl,fun h=>?_⟩;simp only at h;split at h<;>cases h
 | some k=>exact⟨rfl,fun _=>rfl⟩
def key0:List UInt8:=atomB 4294967296
theorem kA_key:sDec (kA 4294967296)=key0:=by rw [kA,keyC,sDec_code];rfl
def lk(n:Nat):List UInt8:=symB 11 [stepB key0 2,numB n]
theorem f_fr:frameV (ownOf (ea.2.1.kf kA)) 2 7 (atomB 9)=(bldB 4 [] [lk 7,atomB 9],0):=by
 rw [ownOf_kf,f_ea.2.2.1];have:lockV (sDec ((Di.kf kA d0).key)) 2 7=(lk 7,0):=by
  rw [show(Di.kf kA d0).key=kA 4294967296 from rfl,kA_key];rfl
 simp only [Option.map_some,frameV,this,if_true]
theorem lk_ne:lk 7≠lk 8:=by decide
theorem f_un(n:Nat):unframeV (kA 4294967296,0) 2 n (lk 7) (atomB 9)=(if lk 7=lk n then atomB 9 else [],if lk 7=lk n then 0 else 140):=by
 have:lockV (sDec (kA 4294967296)) 2 n=(lk n,0):=by
  rw [kA_key];rfl
 simp only [unframeV,this,if_true]
theorem known_meets:Meets Tryz.prog 6 [] [] fun r hs=>r= .bool true∧hs=[]:=by
 refine(mt_known (fun r _=>r= .bool true) ?_).post fun r hs h=>⟨[],Ent.sub (List.nil_sublist _),h,rfl⟩
 obtain⟨Post,hPost⟩: ∃Post:PT,Post=fun r _=>r= .bool true:=⟨_,rfl⟩
 rw [←hPost];have pt: ∀hs,Post (.bool true) hs:=fun hs=>by rw [hPost]
 unfold st_known;refine⟨_,two_known,fun x hs hq=>?_⟩;obtain⟨b0,b1,u,rfl,rfl⟩:=hq;refine⟨b0,b1,u,2,(mem2.length:Int),fun j=>g1.getD j 0,pF mem2 (·.1),pF mem2 (·.2),_,_,rfl,by rw [dK_dev],?_⟩;rw [dK_dev];intro _;refine⟨_,mp_enter b0 m0 u g1 2 5 4294967296 mem2 0 w_m0 (by decide) (fun h=>by cases h) rfl (by decide) (by decide) ok_d0,fun x hs hq=>?_⟩;obtain⟨uo,rfl,rfl⟩:=hq;refine⟨uo,0,1,pF [(0,1)] (·.1),pF [(0,1)] (·.2),fun t=>d0.g.getD (t%16) 0,fun _=>d0.ep,fun _=>d0.sa,fun _=>d0.sd,fun _=>d0.kid,fun _=>kA d0.key,MP b0 (ea.2.1.kf kA) 4294967297,by rw [show(enter m0 g1 2 mem2 5 ((4294967296:Nat):Int)).1=0 from f_ea.1],?_,?_⟩
 ·have hout:oK true uo 1 (pF [(0,1)] (·.1)) (pF [(0,1)] (·.2)) (fun t=>d0.g.getD (t%16) 0) (fun _=>d0.ep) (fun _=>d0.sa) (fun _=>d0.sd) (fun _=>d0.kid) (fun _=>kA d0.key)=outHP uo [(0,1)] (d0.kf kA):=oK_is (own_cols [(0,1)] (d0.kf kA));rw [hout,←f_ea.2.1];show [MP b0 (ea.2.1.kf kA) (if ea.2.2.2=true then 4294967296+1 else 4294967296),devHP true u mem2,outHP uo ea.2.2.1 (d0.kf kA)]=_;rw [f_ea4,if_pos rfl]
 have ho:=mp_own b0 ea.2.1 4294967297 1 w_ea (by decide);rw [ownOf_kf,f_ea.2.2.1]at ho;refine⟨_,ho,fun x hs hq=>?_⟩;obtain⟨rfl,rfl⟩:=hq;refine⟨d0.ep,d0.sa,d0.sd,d0.kid,kA d0.key,fun j=>d0.g.getD j 0,true,by rw [show dV (fun j=>d0.g.getD j 0) d0.ep d0.sa d0.sd d0.kid (kA d0.key)= .agg (diC (d0.kf kA)).toArray from dV_eq (d0.kf kA)];rfl,rfl,?_⟩;intro _;refine⟨by decide,fun _=>⟨.inr (by decide),fun _=>⟨.inr (by decide),fun _=>⟨.inr (by decide),fun _=>⟨fun _=>?_,fun h=>absurd (by simp) h⟩⟩⟩⟩⟩;intro _;refine⟨.inr (by decide),fun _=>⟨.inr (by decide),fun _=>⟨.inr (by decide),fun _=>⟨fun _=>?_,fun h=>absurd ?_ h⟩⟩⟩⟩;rotate_left
 ·refine fun h=>h.elim (fun h=>h.elim (fun h=>h ⟨rfl,rfl⟩) fun h=>h ⟨fun j hj=>?_,rfl,rfl,rfl,rfl,rfl⟩) fun h=>h f_ea.2.2.2
  show d0.g.getD (j%16) 0=_;rw [Nat.mod_eq_of_lt hj]
 refine⟨_,atom_meets 4294967296,fun x hs hq=>?_⟩;obtain⟨rfl,rfl⟩:=hq;refine⟨keyC 4294967296,by simp only [srowF,strD_rowS,tmV],rfl,fun h=>absurd rfl h,fun _=>?_⟩;rw [show dV (fun j=>d0.g.getD j 0) d0.ep d0.sa d0.sd d0.kid (kA d0.key)= .agg (diC (d0.kf kA)).toArray from dV_eq (d0.kf kA)];refine⟨_,mp_take b1 m1 8589934592 d0 0 w_m1 (by decide) (fun h=>by cases h) ok_d0,fun x hs hq=>?_⟩;obtain⟨rfl,rfl⟩:=hq;rw [f_t0];refine⟨_,_,rfl,rfl,fun h=>absurd rfl h,fun _=>?_⟩;refine⟨_,mp_enter b1 mb1 u g1 2 5 8589934592 mem2 1 w_mb1 (by decide) (fun h=>by cases h) rfl (by decide) (by decide) ok_e,fun x hs hq=>?_⟩;obtain⟨uo2,rfl,rfl⟩:=hq;obtain⟨nb,hnb⟩: ∃nb,nb=(if(enter mb1 g1 2 mem2 5 ((8589934592:Nat):Int)).2.2.2=true then 8589934592+1 else 8589934592):=⟨_,rfl⟩;rw [←hnb];refine⟨uo2,0,(eb.2.2.1.length:Int),pF eb.2.2.1 (·.1),pF eb.2.2.1 (·.2),fun t=>(ownD mb1 g1 2 8589934592).g.getD (t%16) 0,fun _=>(ownD mb1 g1 2 8589934592).ep,fun _=>(ownD mb1 g1 2 8589934592).sa,fun _=>(ownD mb1 g1 2 8589934592).sd,fun _=>(ownD mb1 g1 2 8589934592).kid,fun _=>kA (ownD mb1 g1 2 8589934592).key,MP b1 (eb.2.1.kf kA) nb,by rw [show(enter mb1 g1 2 mem2 5 ((8589934592:Nat):Int)).1=0 from f_eb],?_,?_⟩
 ·have hout:oK true uo2 (eb.2.2.1.length:Int) (pF eb.2.2.1 (·.1)) (pF eb.2.2.1 (·.2)) (fun t=>(ownD mb1 g1 2 8589934592).g.getD (t%16) 0) (fun _=>(ownD mb1 g1 2 8589934592).ep) (fun _=>(ownD mb1 g1 2 8589934592).sa) (fun _=>(ownD mb1 g1 2 8589934592).sd) (fun _=>(ownD mb1 g1 2 8589934592).kid) (fun _=>kA (ownD mb1 g1 2 8589934592).key)=outHP uo2 eb.2.2.1 ((ownD mb1 g1 2 8589934592).kf kA):=oK_is (own_cols eb.2.2.1 ((ownD mb1 g1 2 8589934592).kf kA));rw [hout];rfl
 have key: ∀(p:Int×Int) (ep:Int),_:=fun p ep=>mp_key b1 eb.2.1 nb p ep 2 w_eb (by decide)
 intro _;refine⟨_,key (0,0) 2,fun x hs hq=>?_⟩;obtain⟨rfl,rfl⟩:=hq;refine⟨(keyAns zC (eb.2.1.kf kA) (0,0) 2).1,(keyAns zC (eb.2.1.kf kA) (0,0) 2).2,by simp only [srowF,strD_rowS,tmV],rfl,?_⟩;intro _ _;refine⟨_,atom_meets 1,fun x hs hq=>?_⟩;obtain⟨rfl,rfl⟩:=hq;refine⟨keyC 1,by simp only [srowF,strD_rowS,tmV],rfl,?_⟩;intro _;refine⟨_,key (0,0) 1,fun x hs hq=>?_⟩;obtain⟨rfl,rfl⟩:=hq;refine⟨(keyAns zC (eb.2.1.kf kA) (0,0) 1).1,(keyAns zC (eb.2.1.kf kA) (0,0) 1).2,by simp only [srowF,strD_rowS,tmV],rfl,?_⟩;intro _ _;refine⟨_,key (0,2) 2,fun x hs hq=>?_⟩;obtain⟨rfl,rfl⟩:=hq;refine⟨(keyAns zC (eb.2.1.kf kA) (0,2) 2).1,(keyAns zC (eb.2.1.kf kA) (0,2) 2).2,by simp only [srowF,strD_rowS,tmV],rfl,?_⟩;obtain⟨r1,r2⟩:=key_relW w_eb (0,0) 2;obtain⟨r3,_⟩:=key_relW w_eb (0,0) 1;obtain⟨r4,_⟩:=key_relW w_eb (0,2) 2;rw [f_k.1]at r1 r2;rw [f_k.2.1]at r3;rw [f_k.2.2]at r4;have r2:=r2 rfl;rw [r1,r2,r3,r4];intro _;refine⟨fun _=>?_,fun h=>absurd (fun h=>h.elim (fun h=>h.elim (fun h=>h rfl) fun h=>h rfl) fun h=>h rfl) h⟩;rw [show dV (fun j=>d0.g.getD j 0) d0.ep d0.sa d0.sd d0.kid (keyC 1)= .agg (diC (d1.kf kA)).toArray from dV_eq (d1.kf kA)];refine⟨_,mp_take b1 eb.2.1 nb d1 2 w_eb (by decide) g_eb ok_d1,fun x hs hq=>?_⟩;obtain⟨rfl,rfl⟩:=hq;rw [f_t1];refine⟨_,_,rfl,rfl,fun h=>h.elim (fun h=>h.elim (fun h=>absurd rfl h) fun h=>absurd rfl h) fun h=>absurd rfl h,fun _=>?_⟩;refine⟨_,atom_meets 9,fun x hs hq=>?_⟩;obtain⟨rfl,rfl⟩:=hq;refine⟨keyC 9,by simp only [srowF,strD_rowS,tmV],rfl,?_⟩;have e9:(Value.agg #[.string ⟨(strD (srowF (keyC 9))).toArray⟩])=tv (atomB 9):=by rw [tm_eq,keyC,sDec_code]
 rw [e9];have hfr:=mp_frame b0 ea.2.1 4294967297 2 7 (atomB 9) 1 w_ea (by decide) (by decide);rw [f_fr]at hfr;refine⟨_,hfr,fun x hs hq=>?_⟩;obtain⟨rfl,rfl⟩:=hq;refine⟨((sCode (bldB 4 [] [lk 7,atomB 9]):Nat):Int),0,by rw [code_str];rfl,rfl,?_⟩;rw [code_str];obtain⟨q1,q2⟩:=key_relW w_mb2 (0,0) 2;rw [f_k2]at q1 q2;have hka:keyAns zC (mb2.kf kA) (0,0) 2=(kA 4294967296,0):=Prod.ext (q2 rfl) q1;have hll:(lk 7).length+(atomB 9).length≤100000000:=by
  have h1:(lk 7).length≤2000000:=lockV_len key0 2 7 (by decide);have h2:(atomB 9).length=9:=rfl;omega
 have ek:Enc (lk 7):=enc_lock (enc_atomB 4294967296) 2 7;have un: ∀n:Nat,Meets Tryz.prog 20 [.pointer (some ⟨b1,0,none⟩),.agg #[.int .u8 0,.int .u8 0],.int .u64 2,.int .u64 2,.int .u64 (n:Int),tv (bldB 4 [] [lk 7,atomB 9])] [MP b1 (mb2.kf kA) nb]
   fun r hs=>r= .tuple #[tv (if lk 7=lk n then atomB 9 else []),.int .i64 (if lk 7=lk n then 0 else 140)]∧hs=[MP b1 (mb2.kf kA) nb]:=fun n=>by
  have:=mp_unframe b1 mb2 nb (0,0) 2 2 n (lk 7) (atomB 9) 3 w_mb2 (by decide) (by rw [hka];show(sDec (kA 4294967296)).length≤_;rw [kA_key];decide) ek (enc_atomB 9) hll;rw [hka,f_un n]at this;exact this
 have u7:=un 7;have u8:=un 8;rw [if_pos rfl,if_pos rfl]at u7;rw [if_neg lk_ne,if_neg lk_ne]at u8;have tvs: ∀p:List UInt8,(Value.agg #[.string ⟨(strD (srowF ((sCode p:Nat):Int))).toArray⟩])=tv p:=fun p=>by rw [code_str];rfl
 intro _;refine⟨fun _=>⟨⟨_,u7,fun x hs hq=>?_⟩,fun _=>⟨_,u7,fun x hs hq=>?_⟩⟩,fun _ _=>⟨_,u7,fun x hs hq=>?_⟩⟩
 ·obtain⟨rfl,rfl⟩:=hq;refine⟨((sCode (atomB 9):Nat):Int),0,by rw [tvs],rfl,?_⟩;intro _ _;refine⟨_,u8,fun x hs hq=>?_⟩;obtain⟨rfl,rfl⟩:=hq;refine⟨((sCode ([]:List UInt8):Nat):Int),140,by rw [tvs],rfl,?_⟩;intro _ _ _ _ _ _ _ _ _ _;refine⟨fun _=>⟨_,atom_meets 9,fun x hs hq=>?_⟩,fun h=>absurd rfl h⟩;obtain⟨rfl,rfl⟩:=hq;exact⟨keyC 9,by simp only [srowF,strD_rowS,tmV],rfl,fun _ _ _ _=>pt _,fun h=>absurd ⟨⟨rfl,rfl⟩,rfl⟩ h⟩
 ·obtain⟨rfl,rfl⟩:=hq;refine⟨((sCode (atomB 9):Nat):Int),0,by rw [tvs],rfl,?_⟩;intro _;refine⟨_,u8,fun x hs hq=>?_⟩;obtain⟨rfl,rfl⟩:=hq;refine⟨((sCode ([]:List UInt8):Nat):Int),140,by rw [tvs],rfl,?_⟩;intro _ _ _ _ _ _ _ _ _ _;refine⟨fun _=>⟨_,atom_meets 9,fun x hs hq=>?_⟩,fun h=>absurd rfl h⟩;obtain⟨rfl,rfl⟩:=hq;exact⟨keyC 9,by simp only [srowF,strD_rowS,tmV],rfl,fun _ _ _ _=>pt _,fun h=>absurd ⟨⟨rfl,rfl⟩,rfl⟩ h⟩
 ·obtain⟨rfl,rfl⟩:=hq;refine⟨((sCode (atomB 9):Nat):Int),0,by rw [tvs],rfl,?_⟩;intro _;refine⟨_,u8,fun x hs hq=>?_⟩;obtain⟨rfl,rfl⟩:=hq;refine⟨((sCode ([]:List UInt8):Nat):Int),140,by rw [tvs],rfl,?_⟩;intro _ _ _ _ _ _ _ _ _ _;refine⟨fun _=>⟨_,atom_meets 9,fun x hs hq=>?_⟩,fun h=>absurd rfl h⟩;obtain⟨rfl,rfl⟩:=hq;exact⟨keyC 9,by simp only [srowF,strD_rowS,tmV],rfl,fun _ _ _ _=>pt _,fun h=>absurd ⟨⟨rfl,rfl⟩,rfl⟩ h⟩
end Go.RX.Ja

namespace Go.RX
def flatF(P:Program)(g:TypeId→Option (List (Option IntKind))):List Field→Nat→Option (List (Option IntKind))
 | [],_=>some []
 | f::r,off=>match g f.type,flatF P g r (off+P.cellsOf f.type)with
  | some ks,some l=>if f.offset=off∧P.cellsOf f.type=ks.length then some (ks++l)else none
  | _,_=>none
def cellV:Option IntKind→Int→Value
 | some k,n=> .int k n
 | none,n=> .bool (!(n==0))
def cellWf:Option IntKind→Int→Prop
 | some k,n=>(Lit.int k n).wf=true
 | none,_=>True
def CellOk(k:Option IntKind)(v:Value):Prop:= ∃n,v=cellV k n∧cellWf k n
section
variable {H:Type} {enc:TypeId×Value→H} {P:Program} {w:World} {base:Nat} {spare:Nat→Bool} {held:Bool}
theorem flatF_trod{g:TypeId→Option (List (Option IntKind))}{cs:List Value}(hg: ∀t ks cs',g t=some ks→(∃n x,DataW.trod enc P w base spare held n t cs'=some x)→∀(j:Nat) k,ks[j]? =some k→∃v,cs'[j]? =some v∧CellOk k v):
  ∀{fs:List Field} {off:Nat} {ks:List (Option IntKind)},flatF P g fs off=some ks→(∀f∈fs,∃n x,DataW.trod enc P w base spare held n f.type ((cs.drop f.offset).take (P.cellsOf f.type))=some x)→
   ∀(j:Nat) k,ks[j]? =some k→∃v,cs[off+j]? =some v∧CellOk k v
 | [],off,ks,h,_,j,k,hk=>by
  simp only [flatF,Option.some.injEq]at h;subst h;simp at hk
 | f::r,off,ks,h,hf,j,k,hk=>by
  unfold flatF at h;split at h
  ·rename_i k1 l h1 h2;split at h
   ·rename_i hc;obtain⟨rfl,hc2⟩:=hc;cases h;by_cases hj:j<k1.length
    ·rw [List.getElem?_append_left hj]at hk;obtain⟨v,hv,hok⟩:=hg _ _ _ h1 (hf f List.mem_cons_self) j k hk;refine⟨v,?_,hok⟩;rw [List.getElem?_take]at hv;split at hv
     ·rw [List.getElem?_drop]at hv;exact hv
     ·cases hv
    ·rw [List.getElem?_append_right (by omega)]at hk;obtain⟨v,hv,hok⟩:=flatF_trod hg h2 (fun f' hf'=>hf f' (List.mem_cons_of_mem _ hf')) _ k hk;refine⟨v,?_,hok⟩;rw [←hv,hc2];congr 1;omega
   ·cases h
  ·cases h
end
def IsTab(ks:List (Option IntKind))(w:World)(a:Option Addr)(len cap:Nat)(F:Nat→Nat→Int):Prop:=
 (a=none∧len=0∧cap=0)∨
 ∃x,a=some x∧len≤cap∧cap≤maxLen∧∀i,i<len→∀(j:Nat) k,ks[j]? =some k→w.cell? (x.add (i*ks.length+j))=some (cellV k (F i j))∧cellWf k (F i j)
def colOf(k:Option IntKind)(f:Nat→Int):Nat→List Value:=
 match k with
 | some k=>colI k 1 f
 | none=>colB 1 f
theorem colOf_eq(k:Option IntKind)(f:Nat→Int)(i:Nat):colOf k f i=[cellV k (f i)]:=by
 cases k<;>simp [colOf,colI,colB,segCells,cellV]
def colsOfTab:List (Option IntKind)→(Nat→Nat→Int)→List (Nat→List Value)
 | [],_=>[]
 | k::r,F=>colOf k (fun i=>F i 0)::colsOfTab r fun i j=>F i (j+1)
theorem colsOfTab_at: ∀{ks:List (Option IntKind)} {F:Nat→Nat→Int} {i:Nat},((colsOfTab ks F).flatMap fun c=>c i).length=ks.length∧∀(j:Nat) u,((colsOfTab ks F).flatMap fun c=>c i)[j]? =some u→∃k,ks[j]? =some k∧u=cellV k (F i j)
 | [],F,i=>⟨rfl,fun j u h=>by simp [colsOfTab]at h⟩
 | k::r,F,i=>by
  obtain⟨h1,h2⟩:=colsOfTab_at (ks:=r) (F:=fun i j=>F i (j+1)) (i:=i);simp only [colsOfTab,List.flatMap_cons,colOf_eq,List.singleton_append];refine⟨by simp only [List.length_cons,h1],fun j u h=>?_⟩;cases j with
  | zero=>simp at h;exact⟨k,rfl,h.symm⟩
  | succ j=>exact h2 j u (by simpa using h)
theorem tab_at{ks:List (Option IntKind)}{F:Nat→Nat→Int}: ∀{n:Nat},(tabL n (colsOfTab ks F)).length=n*ks.length∧∀(m:Nat) u,(tabL n (colsOfTab ks F))[m]? =some u→∃i j k,i<n∧ks[j]? =some k∧m=i*ks.length+j∧u=cellV k (F i j)
 | 0=>⟨by simp [tabL],fun m u h=>by simp [tabL]at h⟩
 | n+1=>by
  obtain⟨h1,h2⟩:=tab_at (ks:=ks) (F:=F) (n:=n);have e:tabL (n+1) (colsOfTab ks F)=tabL n (colsOfTab ks F)++(colsOfTab ks F).flatMap fun c=>c n:=by
   simp [tabL,List.range_succ,List.flatMap_append]
  obtain⟨h3,h4⟩:=colsOfTab_at (ks:=ks) (F:=F) (i:=n);rw [e];refine⟨by rw [List.length_append,h1,h3,Nat.succ_mul],fun m u h=>?_⟩;by_cases hm:m<(tabL n (colsOfTab ks F)).length
  ·rw [List.getElem?_append_left hm]at h;obtain⟨i,j,k,q1,q2,q3,q4⟩:=h2 m u h;exact⟨i,j,k,by omega,q2,q3,q4⟩
  ·rw [List.getElem?_append_right (by omega)]at h;obtain⟨k,q1,q2⟩:=h4 _ u h;refine⟨n,_,k,by omega,q1,?_,q2⟩;rw [h1]at hm ⊢;omega
theorem owns_tab{ks:List (Option IntKind)}{w:World}{a:Option Addr}{len cap:Nat}{F:Nat→Nat→Int}(h:IsTab ks w a len cap F)(hk:0<ks.length)(t:Nat):
  Owns ([sliHP false t ks.length (.slice a len cap) len (tabL len (colsOfTab ks F))]++[keptHP w.heap.size w]) w:=by
 have hk0: ∃k,ks[0]? =some k:=⟨_,List.getElem?_eq_getElem hk⟩;obtain⟨k0,hk0⟩:=hk0;have h1:(sliHP false t ks.length (.slice a len cap) len (tabL len (colsOfTab ks F))).p w (fun b=>(Value.slice a len cap).ownBlock=some b∧0<len):=by
  refine⟨?_,fun b=>by simp⟩;simp only [Bool.false_eq_true,if_false];refine⟨tab_at.1,a,len,cap,rfl,rfl,?_,?_,?_⟩
  ·rcases h with⟨_,rfl,rfl⟩ | ⟨x,_,h,_⟩
   ·exact Nat.le_refl _
   ·exact h
  ·rintro rfl;rcases h with⟨_,h,_⟩ | ⟨x,h,_⟩
   ·exact h
   ·cases h
  ·rintro ad rfl;rcases h with⟨h,_⟩ | ⟨x,h,hl,_,hc⟩
   ·cases h
   ·cases h;constructor
    ·intro hpos;have h0:=(hc 0 hpos 0 k0 hk0).1;rw [Nat.zero_mul,Nat.zero_add,addr_add_zero]at h0;exact World.cell?_spot h0
    ·intro j u hu;obtain⟨i,j',k,q1,q2,rfl,rfl⟩:=tab_at.2 j u hu;exact(hc i q1 j' k q2).1
 have h2: ∀b,(Value.slice a len cap).ownBlock=some b∧0<len→b<w.heap.size:=by
  rintro b ⟨hb,hpos⟩;rcases h with⟨rfl,rfl,_⟩ | ⟨x,rfl,hl,_,hc⟩
  ·omega
  ·simp only [Value.ownBlock,Option.some.injEq]at hb;subst hb;have:=World.block_lt_of_cell? w _ (hc 0 hpos 0 k0 hk0).1;rw [Nat.zero_mul,Nat.zero_add,addr_add_zero]at this;exact this
 refine⟨fun i b=>if i=0 then(Value.slice a len cap).ownBlock=some b∧0<len else b<w.heap.size,⟨?_,?_⟩⟩
 ·intro i hp hi
  match i,hi with
  | 0,hi=>simp at hi;subst hi;exact⟨h1,h2⟩
  | 1,hi=>simp at hi;subst hi;exact⟨⟨fun _=>Iff.rfl,fun _ _=>rfl⟩,fun _ h=>h⟩
  | i+2,hi=>simp at hi
 ·intro i j x y hne hi hj hwr;exfalso;have key: ∀(i:Nat) (x:HP),([sliHP false t ks.length (.slice a len cap) len (tabL len (colsOfTab ks F))]++[keptHP w.heap.size w])[i]? =some x→x.wr=false:=by
   intro i x hi
   match i,hi with
   | 0,hi=>simp at hi;subst hi;rfl
   | 1,hi=>simp at hi;subst hi;rfl
   | i+2,hi=>simp at hi
  rw [key i x hi,key j y hj]at hwr;simp at hwr
end Go.RX
