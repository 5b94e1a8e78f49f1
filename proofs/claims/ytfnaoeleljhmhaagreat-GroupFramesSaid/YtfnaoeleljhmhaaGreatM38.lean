/- Terms: hashes, numbers, what is sealed, keys some steps on. · Terms are taken apart: how long one is (size), the parts of one of two (two), what is sealed (Open). -/
import Derived.Test.YtfnaoeleljhmhaaGreatM31
import Derived.Test.YtfnaoeleljhmhaaGreatM37

namespace Go.RX.Ia
open Go Go.RX Go.Proofs Go.RX.Gb Go.RX.Gf Go.RX.Gr Go.RX.Gq
def tv(p:List UInt8):Value:= .agg #[strC p]
theorem tab_strs{n:Nat}{A:Nat→Int}{ps:List (List UInt8)}(hn:n=ps.length)(h: ∀j,j<n→A j=codeF ps j):tabL n [colS 1 A]=ps.map strC:=by
 subst hn;rw [←tab_str];unfold tabL;rw [List.flatMap_def,List.flatMap_def];congr 1;refine List.map_congr_left fun j hj=>?_
 have:=h j (List.mem_range.1 hj);simp [colS,colV,this]
theorem codeF_at(ps:List (List UInt8))(j:Nat)(h:j<ps.length):codeF ps j=((sCode ps[j]:Nat):Int):=by
 simp [codeF,List.getD_eq_getElem?_getD,h]
theorem Ent.rowLook(b t n:Nat)(cs:List Value)(hn:cs.length=n)(hl:cs.length≤maxLen):Ent [rowHP b true cs] [sliHP false t 1 (.slice (some ⟨b,0,none⟩) n n) n cs]:=by
 subst hn;refine Ent.put 0 _ _ rfl (fun h=>by cases h) fun w S hp=>?_
 have ho:=row_owns (t:=t) hp hl;have hS:(sliHP true t 1 (.slice (some ⟨b,0,none⟩) cs.length cs.length) cs.length cs).p w S:=by
  unfold sliHP;simp only [if_true];refine⟨ho,fun k=>?_⟩;rw [hp.1 k];exact⟨fun h=>⟨by simp only [Value.ownBlock,h],.inl trivial⟩,fun h=>by have h:=h.1;simp only [Value.ownBlock,Option.some.injEq]at h;exact h.symm⟩
 exact⟨_,fun _ hk=>hk.1,sli_look hS⟩
def hashB(c:UInt8)(ps:List (List UInt8)):List UInt8:=bldB 3 (beB c.toNat++[UInt8.ofNat ps.length]) ps
theorem hash_meets(c:UInt8)(ps:List (List UInt8))(pv:V1)(hl:ps.length≤255)(hb:ps.flatten.length≤100000000):
  Meets Tryz.prog 261 [.int .u8 c.toNat,pv.v] [sliHP false 33 1 pv.v ps.length (ps.map strC)] fun r hs=>r=tv (hashB c ps)∧hs=[]:=by
 have base:=mt_hash (fun r _=>r=tv (hashB c ps)) (c.toNat:Int) (ps.length:Int) (codeF ps) pv;rw [Int.toNat_natCast,tab_str]at base;refine(base ?_).post fun r hs h=>⟨[],Ent.sub (List.nil_sublist _),h,rfl⟩
 unfold st_hash;rw [Int.toNat_natCast,tab_str];intro _;refine⟨by omega,fun _=>⟨fun h=>absurd h (by omega),fun _=>?_⟩⟩;have hc:IntKind.wrap .u64 (c.toNat:Int)=((c.toNat:Nat):Int):=by have:=c.toNat_lt;rw [w64];omega
 rw [hc];refine⟨_,be_meets c.toNat,fun x hs hq=>?_⟩;obtain⟨v,rfl,rfl⟩:=hq;refine⟨v,byF (beB c.toNat),rfl,by rw [tab_by (show 8=(beB c.toNat).length from rfl) (fun _ _=>rfl)],?_⟩;intro _ v2;have hw:IntKind.wrap .u8 (ps.length:Int)=((UInt8.ofNat ps.length).toNat:Int):=by
  rw [UInt8.toNat_ofNat'];show(ps.length:Int)%256=_;omega
 rw [hw,tab_by (l:=beB c.toNat++[UInt8.ofNat ps.length]) (by rfl) (fun j hj=>by
  simp only [updF];rw [byF_append];by_cases h8:j=8
  ·subst h8;rw [if_pos rfl,if_neg (by show¬(8<8);omega)];rfl
  ·rw [if_neg h8,if_pos (by show j<8;omega)])]
 have hbm:=build_meets 3 (beB c.toNat++[UInt8.ofNat ps.length]) ps v2 pv (by show 1+9+_≤_;omega) (by omega);refine⟨_,(hbm.pre (pre:=[sliHP true 5 1 v2.v 9 (Lib.byteCells (beB c.toNat++[UInt8.ofNat ps.length])),sliHP false 33 1 pv.v ps.length (ps.map strC)]) (Ent.frame (Ent.lookS 5 1 9 v2.v _) [sliHP false 33 1 pv.v ps.length (ps.map strC)])).post (q:=fun r hs=>r=tv (hashB c ps)∧hs=[]) fun r hs h=>⟨[],Ent.sub (List.nil_sublist _),h.1,rfl⟩,fun x hs hq=>?_⟩;obtain⟨rfl,rfl⟩:=hq;exact⟨((sCode (hashB c ps):Nat):Int),by rw [code_str];rfl,rfl,by rw [code_str];rfl⟩
theorem hash0_meets(c:UInt8):Meets Tryz.prog 261 [.int .u8 c.toNat,.slice none 0 0] [] fun r hs=>r=tv (hashB c [])∧hs=[]:=
 (hash_meets c [] nil1 (by decide) (by decide)).pre (Ent.trans (Ent.nilS 33 1) (Ent.lookS 33 1 0 _ _))
def symB(c:UInt8)(ps:List (List UInt8)):List UInt8:=hashB c (hashB 1 []::ps)
theorem shash_meets(b:Nat)(c:UInt8)(ps:List (List UInt8))(pv:V1)(hl:ps.length≤254)(hb:ps.flatten.length≤99999900):
  Meets Tryz.prog 255 [.pointer (some ⟨b,0,none⟩),.int .u8 c.toNat,pv.v] [sliHP false 33 1 pv.v ps.length (ps.map strC)] fun r hs=>r=tv (symB c ps)∧hs=[]:=by
 have base:=mt_shash (fun r _=>r=tv (symB c ps)) (c.toNat:Int) (ps.length:Int) (codeF ps) pv b;rw [Int.toNat_natCast,tab_str]at base;refine(base ?_).post fun r hs h=>⟨[],Ent.sub (List.nil_sublist _),h,rfl⟩
 unfold st_shash;intro _;refine⟨_,hash0_meets 1,fun x hs hq=>?_⟩;obtain⟨rfl,rfl⟩:=hq;refine⟨((sCode (hashB 1 []):Nat):Int),by rw [code_str];rfl,rfl,?_⟩;intro _;refine⟨by omega,fun _=>⟨by omega,fun _=>⟨by omega,fun _ v1=>?_⟩⟩⟩;have hlen:(hashB 1 []).length=10:=by decide
 have hm:=hash_meets c (hashB 1 []::ps) v1 (by simp only [List.length_cons];omega) (by simp only [List.flatten_cons,List.length_append,hlen];omega);rw [show(Int.toNat (1+(ps.length:Int)))=(hashB 1 []::ps).length by simp only [List.length_cons];omega,Int.toNat_natCast,tab_strs (ps:=hashB 1 []::ps) rfl (fun j hj=>by
  simp only [splF,updF];rw [codeF_at _ j hj];by_cases h0:j=0
  ·subst h0;rw [if_neg (by omega),if_pos rfl];rfl
  ·simp only [List.length_cons]at hj;rw [if_pos (by omega),codeF_at _ (j - 1) (by omega),List.getElem_cons];rw [dif_neg h0])]
 refine⟨_,hm.pre (Ent.lookS 33 1 _ v1.v _),fun x hs hq=>?_⟩;obtain⟨rfl,rfl⟩:=hq;exact⟨((sCode (symB c ps):Nat):Int),by rw [code_str];rfl,rfl,by rw [code_str];rfl⟩
def numB(n:Nat):List UInt8:=hashB 0 ((beB n).map fun c=>hashB c [])
theorem abe_meets(n:Nat):Meets Tryz.prog 262 [.int .u64 (n:Int)] [] fun r hs=> ∃v:V1,r=v.v∧hs=[sliHP true 5 1 v.v 8 (Lib.byteCells (beB n))]:=by
 have base:=mt_abe (fun r hs=> ∃v:V1,r=v.v∧∃hs',Ent hs hs'∧hs'=[sliHP true 5 1 v.v 8 (Lib.byteCells (beB n))]) (n:Int);refine(base ?_).post fun r hs ⟨v',h1,hs',h2,h3⟩=>⟨hs',h2,v',h1,h3⟩
 unfold st_abe;intro b0 _ b1 _ b2 _ b3 _ b4 _ b5 _ b6 _ b7 v7;refine⟨v7,rfl,_,Ent.sub (List.Sublist.cons _ (List.Sublist.cons_cons _ (List.nil_sublist _))),?_⟩;congr 2;refine tab_by rfl fun j hj=>?_
 match j,hj with
 | 0,_=>exact shr_byte n 72057594037927936 _ rfl
 | 1,_=>exact shr_byte n 281474976710656 _ rfl
 | 2,_=>exact shr_byte n 1099511627776 _ rfl
 | 3,_=>exact shr_byte n 4294967296 _ rfl
 | 4,_=>exact shr_byte n 16777216 _ rfl
 | 5,_=>exact shr_byte n 65536 _ rfl
 | 6,_=>exact shr_byte n 256 _ rfl
 | 7,_=>exact(shr_byte n 1 _ rfl).trans (by rw [Nat.div_one];rfl)
theorem num_meets(b n:Nat):Meets Tryz.prog 256 [.pointer (some ⟨b,0,none⟩),.int .u64 (n:Int)] [] fun r hs=>r=tv (numB n)∧hs=[]:=by
 refine(mt_num (fun r _=>r=tv (numB n)) (n:Int) b ?_).post fun r hs h=>⟨[],Ent.sub (List.nil_sublist _),h,rfl⟩
 unfold st_num;intro _;refine⟨_,abe_meets n,fun x hs hq=>?_⟩;obtain⟨v,rfl,rfl⟩:=hq;have h8:(beB n).length=8:=rfl;refine⟨v,byF (beB n),rfl,by rw [tab_by h8.symm (fun _ _=>rfl)],?_⟩;obtain⟨L,hL⟩: ∃L:List (List UInt8),L=(beB n).map fun c=>hashB c []:=⟨_,rfl⟩
 have hLl:L.length=8:=by rw [hL,List.length_map,h8]
 refine⟨fun x=> ∃(i:Nat) (u:V1) (A:Nat→Int),x=⟨[],[u],[(i:Int),(i:Int)],[A],[],[],[]⟩∧i≤8∧∀j,j<i→A j=codeF L j,fun x=>8 - (x.i.getD 0 0).toNat,⟨_,_,_,_,rfl,rfl,rfl,rfl,fun _ _=>rfl,0,_,_,rfl,Nat.zero_le _,fun j hj=>by omega⟩,?_⟩;rintro v2 x1 x2 A1 ⟨i,u,A,he,hi,hA⟩;cases he;refine⟨fun hlt=>⟨by omega,fun _=>?_⟩,fun hge=>?_⟩
 ·have hil:i<8:=by omega
  rw [Int.toNat_natCast,show byF (beB n) i=(((beB n)[i]'(by rw [h8];exact hil)).toNat:Int) by simp [byF,h8,hil]];refine⟨_,hash0_meets _,fun x hs hq=>?_⟩;obtain⟨rfl,rfl⟩:=hq;refine⟨((sCode (hashB ((beB n)[i]'(by rw [h8];exact hil)) []):Nat):Int),by rw [code_str];rfl,rfl,?_⟩;intro _;refine⟨by omega,fun _=>⟨by omega,fun _ v3=>⟨by omega,fun _=>⟨by omega,fun _=>⟨_,_,_,_,rfl,rfl,rfl,rfl,fun _ _=>rfl,⟨i+1,_,_,rfl,by omega,fun j hj=>?_⟩,?_⟩⟩⟩⟩⟩
  ·simp only [updF];by_cases hji:j=i
   ·subst hji;rw [if_pos rfl,codeF_at L j (by omega)];simp only [hL,List.getElem_map]
   ·rw [if_neg hji];exact hA j (by omega)
  ·simp only [List.getD_cons_zero];omega
 ·have hie:i=8:=by omega
  subst hie;rw [show Int.toNat ((8:Nat):Int)=8 from rfl,tab_strs (ps:=L) hLl.symm hA];have hfl:L.flatten.length=80:=by
   rw [hL];rfl
  have hm:=hash_meets 0 L v2 (by omega) (by omega);rw [hLl]at hm;refine⟨_,hm.pre (Ent.lookS 33 1 8 v2.v _),fun x hs hq=>?_⟩;obtain⟨rfl,rfl⟩:=hq;exact⟨((sCode (numB n):Nat):Int),by rw [code_str,hL];rfl,rfl,by rw [code_str];rfl⟩
theorem seal_meets(k t:List UInt8)(hl:k.length+t.length≤100000000):Meets Tryz.prog 19 [tv k,tv t] [] fun r hs=>r=tv (bldB 4 [] [k,t])∧hs=[]:=by
 have base:=mt_seal (fun r _=>r=tv (bldB 4 [] [k,t])) ((sCode k:Nat):Int) ((sCode t:Nat):Int);rw [code_str,code_str]at base;refine(base ?_).post fun r hs h=>⟨[],Ent.sub (List.nil_sublist _),h,rfl⟩
 unfold st_seal;rw [code_str,code_str];intro _ _ _ b3;have hb:=build_meets 4 [] [k,t] nil1 ⟨.slice (some ⟨b3,0,none⟩) 2 2,rfl⟩ (by simp;omega) (by simp);refine⟨_,(hb.pre (pre:=[rowHP b3 true [strC k,strC t]]) ?_).post (q:=fun r hs=>r=tv (bldB 4 [] [k,t])∧hs=[]) fun r hs h=>⟨[],Ent.sub (List.nil_sublist _),h.1,rfl⟩,fun x hs hq=>?_⟩
 ·have e1:=Ent.rowLook b3 33 2 [strC k,strC t] rfl (by show 2≤maxLen;unfold maxLen;omega);have e2:=Ent.front (A:=[sliHP false 33 1 (.slice (some ⟨b3,0,none⟩) 2 2) 2 [strC k,strC t]]) (Ent.trans (Ent.nilS 5 1) (Ent.lookS 5 1 0 _ _));exact Ent.trans e1 (Ent.trans e2 (Ent.perm (List.Perm.swap _ _ _)))
 ·obtain⟨rfl,rfl⟩:=hq;exact⟨((sCode (bldB 4 [] [k,t]):Nat):Int),by rw [code_str];rfl,rfl,by rw [code_str];rfl⟩
end Go.RX.Ia

namespace Go.RX.Ia
open Go Go.RX Go.Proofs Go.RX.Gb Go.RX.Gf Go.RX.Gr Go.RX.Gq
theorem strD_of(f:Nat→Int)(l:List UInt8)(h0:f 0=l.length)(h: ∀j (hj:j<l.length),f (j+1)=((l[j]'hj).toNat:Int)):strD f=l:=by
 apply List.ext_getElem?;intro j;simp only [strD,h0,Int.toNat_natCast,List.getElem?_map];by_cases hj:j<l.length
 ·rw [List.getElem?_range hj,List.getElem?_eq_getElem hj];simp [h j hj]
 ·rw [List.getElem?_eq_none (by simp;omega),List.getElem?_eq_none (by omega)];rfl
theorem rowS_at(l:List UInt8)(j:Nat)(h:j<l.length):rowS l (j+1)=((l[j]'h).toNat:Int):=by
 rw [rowS,List.getD_eq_getElem?_getD,List.getElem?_eq_getElem h,Option.getD_some]
theorem mid_rowS(l:List UInt8)(a b:Nat)(h:a≤b)(hb:b≤l.length):strD (updF (shiftF (rowS l) a) 0 ((b:Int) - a))=(l.drop a).take (b - a):=by
 refine strD_of _ _ ?_ fun j hj=>?_
 ·rw [List.length_take,List.length_drop,updF,if_pos rfl];omega
 ·rw [List.length_take,List.length_drop]at hj;rw [updF,if_neg (by omega),shiftF,show a+(j+1)=a+j+1 by omega,rowS_at l (a+j) (by omega),List.getElem_take,List.getElem_drop]
theorem drop_rowS(l:List UInt8)(k:Nat)(h:k≤l.length):strD (updF (shiftF (rowS l) k) 0 ((l.length:Int) - k))=l.drop k:=by
 rw [mid_rowS l k l.length h (Nat.le_refl _),List.take_of_length_le (by rw [List.length_drop];omega)]
theorem sby_at(s:List UInt8)(j:Nat):sbyF (rowS s) j=((s.getD j 0).toNat:Int):=by
 simp [sbyF,rowS]
def hdB(s:List UInt8):Nat×Nat:=if s.getD 0 0=1 then(9,0)else if s.getD 0 0=3 then(10,(s.getD 9 0).toNat)else if s.getD 0 0=5 then(1,1)else(1,2)
theorem byte_nat(c:UInt8)(n:Nat)(hn:n<256):((c.toNat:Int)=n)↔c=UInt8.ofNat n:=by
 rw [←UInt8.toNat_inj,UInt8.toNat_ofNat'];omega
theorem head_meets(s:List UInt8)(h:s≠[])(h3:s.getD 0 0=3→9<s.length):Meets Tryz.prog 117 [strC s] [] fun r hs=>r= .tuple #[.int .i64 (hdB s).1,.int .i64 (hdB s).2]∧hs=[]:=by
 have base:=mt_head (fun r hs=>r= .tuple #[.int .i64 (hdB s).1,.int .i64 (hdB s).2]∧hs=[]) (rowS s);rw [strD_rowS]at base;refine base ?_;unfold st_head;have hl:0<s.length:=List.length_pos_iff.2 h;simp only [sby_at];have b1:=byte_nat (s.getD 0 0) 1 (by omega);have b3:=byte_nat (s.getD 0 0) 3 (by omega);have b5:=byte_nat (s.getD 0 0) 5 (by omega);have hb: ∀j,(s.getD j 0).toNat<256:=fun j=>(s.getD j 0).toNat_lt
 refine⟨by show(0:Int)<s.length;omega,fun _=>⟨fun c1=>?_,fun c1=>⟨fun c3=>?_,fun c3=>⟨fun c5=>?_,fun c5=>?_⟩⟩⟩⟩
 ·have c1:s.getD 0 0=1:=b1.1 c1;rw [show hdB s=(9,0) by rw [hdB,if_pos c1]];exact⟨rfl,trivial⟩
 ·have c1: ¬s.getD 0 0=1:=fun h=>c1 (b1.2 h)
  have c3:s.getD 0 0=3:=b3.1 c3;have:=hb 9;refine⟨by show(9:Int)<s.length;have:=h3 c3;omega,fun _=>⟨by omega,fun _=>⟨by omega,fun _=>?_⟩⟩⟩;rw [show hdB s=(10,(s.getD 9 0).toNat) by rw [hdB,if_neg c1,if_pos c3]];exact⟨rfl,trivial⟩
 ·have c1: ¬s.getD 0 0=1:=fun h=>c1 (b1.2 h)
  have c3: ¬s.getD 0 0=3:=fun h=>c3 (b3.2 h)
  have c5:s.getD 0 0=5:=b5.1 c5;rw [show hdB s=(1,1) by rw [hdB,if_neg c1,if_neg c3,if_pos c5]];exact⟨rfl,trivial⟩
 ·have c1: ¬s.getD 0 0=1:=fun h=>c1 (b1.2 h)
  have c3: ¬s.getD 0 0=3:=fun h=>c3 (b3.2 h)
  have c5: ¬s.getD 0 0=5:=fun h=>c5 (b5.2 h)
  rw [show hdB s=(1,2) by rw [hdB,if_neg c1,if_neg c3,if_neg c5]];exact⟨rfl,trivial⟩
inductive Enc:List UInt8→Prop
 | atom (d:List UInt8) (hd:d.length=8):Enc (1::d)
 | hash (d:List UInt8) (hd:d.length=8) (ps:List (List UInt8)) (hn:ps.length<256) (h: ∀p∈ps,Enc p):Enc (3::((d++[UInt8.ofNat ps.length])++ps.flatten))
 | two (c:UInt8) (a b:List UInt8) (hc:c≠1∧c≠3∧c≠5) (ha:Enc a) (hb:Enc b):Enc (c::(a++b))
theorem enc_head{t:List UInt8}(h:Enc t): ∃(hd:List UInt8) (ps:List (List UInt8)),t=hd++ps.flatten∧0<hd.length∧hd.length≤10∧ps.length<256∧(∀p∈ps,Enc p)∧∀r,hdB (hd++r)=(hd.length,ps.length)∧((hd++r).getD 0 0=3→9<(hd++r).length):=by
 cases h with
 | atom d hd=>
  refine⟨1::d,[],by simp,by simp,by simp [hd],by simp,by simp,fun r=>⟨?_,fun h=>?_⟩⟩
  ·simp [hdB,hd]
  ·simp at h
 | hash d hd ps hn h=>
  refine⟨3::(d++[UInt8.ofNat ps.length]),ps,by simp,by simp,by simp [hd],hn,h,fun r=>⟨?_,fun _=>?_⟩⟩
  ·have e:((3::(d++[UInt8.ofNat ps.length]))++r).getD 9 0=UInt8.ofNat ps.length:=by
    simp only [List.cons_append,List.getD_cons_succ,List.append_assoc,List.nil_append];rw [List.getD_eq_getElem?_getD,List.getElem?_append_right (by omega),hd];simp
   have e0:((3::(d++[UInt8.ofNat ps.length]))++r).getD 0 0=3:=rfl;unfold hdB;rw [e,e0,if_neg (by decide),if_pos rfl,UInt8.toNat_ofNat'];simp only [List.length_cons,List.length_append,List.length_nil,hd];rw [Nat.mod_eq_of_lt hn]
  ·simp [hd];omega
 | two c a b hc ha hb=>
  refine⟨[c],[a,b],by simp,by simp,by simp,by simp,?_,fun r=>⟨?_,fun h=>?_⟩⟩
  ·intro p hp;simp only [List.mem_cons,List.not_mem_nil,or_false]at hp;rcases hp with rfl | rfl
   ·exact ha
   ·exact hb
  ·simp [hdB,hc.1,hc.2.1,hc.2.2]
  ·simp at h;exact absurd h hc.2.1
theorem enc_pos{t:List UInt8}(h:Enc t):0<t.length:=by cases h<;>simp
theorem flat_len: ∀{ts:List (List UInt8)},(∀t∈ts,Enc t)→ts.length≤ts.flatten.length
 | [],_=>Nat.le_refl _
 | t::ts,h=>by
  have:=enc_pos (h t (List.mem_cons_self ..));have:=flat_len fun x hx=>h x (List.mem_cons_of_mem _ hx)
  simp only [List.length_cons,List.flatten_cons,List.length_append];omega
theorem size_meets(a rest:List UInt8)(ha:Enc a)(hl:(a++rest).length≤1000000000):Meets Tryz.prog 118 [strC (a++rest)] [] fun r hs=>r= .int .i64 a.length∧hs=[]:=by
 have base:=mt_size (fun r hs=>r= .int .i64 a.length∧hs=[]) (rowS (a++rest));rw [strD_rowS]at base;refine base ?_;unfold st_size;have hal:a.length≤(a++rest).length:=by rw [List.length_append];omega
 refine⟨fun x=> ∃(i:Nat) (ts:List (List UInt8)),x=⟨[],[],[(i:Int),(ts.length:Int)],[],[],[],[]⟩∧(∀t∈ts,Enc t)∧i+ts.flatten.length=a.length∧(a++rest).drop i=ts.flatten++rest,fun x=>(a++rest).length - (x.i.getD 0 0).toNat,
  ⟨_,_,rfl,rfl,0,[a],rfl,by simpa using ha,by simp,by simp⟩,?_⟩
 rintro x0 x1 ⟨i,ts,he,hts,hi,hd⟩;cases he;have hfl:=flat_len hts;refine⟨fun hlt=>⟨by omega,fun _=>⟨by show(i:Int)≤((a++rest).length:Int);omega,fun _=>?_⟩⟩,fun hge=>?_⟩
 ·cases ts with
  | nil=>simp at hlt
  | cons t ts=>
   obtain⟨hh,ps,ht,hpos,h10,hn,hps,hr⟩:=enc_head (hts t (List.mem_cons_self ..));have hd2:(a++rest).drop i=hh++(ps.flatten++ts.flatten++rest):=by
    rw [hd,List.flatten_cons,ht];simp [List.append_assoc]
   obtain⟨r1,r2⟩:=hr (ps.flatten++ts.flatten++rest);rw [Int.toNat_natCast,show rowS (a++rest) 0=((a++rest).length:Int)from rfl,drop_rowS _ _ (by omega),hd2];have hm:=head_meets (hh++(ps.flatten++ts.flatten++rest)) (fun h=>by rw [List.append_eq_nil_iff]at h;rw [h.1]at hpos;exact absurd hpos (by decide)) r2;rw [r1]at hm;refine⟨_,hm,fun x hs hq=>?_⟩;obtain⟨rfl,rfl⟩:=hq;have hfl2:(t::ts).flatten.length=hh.length+ps.flatten.length+ts.flatten.length:=by rw [List.flatten_cons,ht];simp;omega
   simp only [List.length_cons]at hfl hlt ⊢;refine⟨(hh.length:Int),(ps.length:Int),rfl,trivial,?_⟩
   iterate 6 refine⟨by omega,fun _=>?_⟩
   refine⟨_,_,rfl,rfl,⟨i+hh.length,ps++ts,?_,?_,?_,?_⟩,?_⟩
   ·rw [show((i:Int)+(hh.length:Int))=((i+hh.length:Nat):Int) by omega,show(((ts.length+1:Nat):Int)+(ps.length:Int) - 1)=((ps++ts).length:Int) by rw [List.length_append];omega]
   ·intro x hx;rcases List.mem_append.1 hx with hx | hx
    ·exact hps x hx
    ·exact hts x (List.mem_cons_of_mem _ hx)
   ·rw [List.flatten_append,List.length_append];omega
   ·rw [←List.drop_drop,hd2,List.drop_left,List.flatten_append]
   ·simp only [List.getD_cons_zero];omega
 ·have hts0:ts=[]:=List.eq_nil_of_length_eq_zero (by omega);subst hts0;simp at hi;rw [hi];exact⟨rfl,rfl⟩
theorem srow_code(p:List UInt8):srowF ((sCode p:Nat):Int)=rowS p:=by rw [srowF,sDec_code]
theorem two_meets(c:UInt8)(a b:List UInt8)(hc:c≠1∧c≠3∧c≠5)(ha:Enc a)(hb:Enc b)(hl:a.length+b.length≤100000000):
  Meets Tryz.prog 78 [tv (c::(a++b))] [] fun r hs=>r= .tuple #[tv a,tv b]∧hs=[]:=by
 have base:=mt_two (fun r _=>r= .tuple #[tv a,tv b]) ((sCode (c::(a++b)):Nat):Int);rw [code_str]at base;refine(base ?_).post fun r hs h=>⟨[],Ent.sub (List.nil_sublist _),h,rfl⟩
 unfold st_two;simp only [srow_code,strD_rowS,empty_str];have hlen:((c::(a++b)).length:Int)=1+a.length+b.length:=by simp only [List.length_cons,List.length_append];omega
 have h0:rowS (c::(a++b)) 0=((c::(a++b)).length:Int):=rfl;intro _ _ _ _ _ _ _ _;refine⟨fun h=>by simp at h,fun _=>?_⟩;have hh:=head_meets (c::(a++b)) (by simp) (fun h=>absurd h hc.2.1);have hd:hdB (c::(a++b))=(1,2):=by simp [hdB,hc.1,hc.2.1,hc.2.2]
 rw [hd]at hh;refine⟨_,hh,fun x hs hq=>?_⟩;obtain⟨rfl,rfl⟩:=hq;refine⟨rfl,rfl,by rw [h0];omega,fun _=>?_⟩;have d1:=drop_rowS (c::(a++b)) 1 (by simp);rw [show(((c::(a++b)).length:Int) - (1:Nat))=rowS (c::(a++b)) 0 - 1 by rw [h0];rfl]at d1;rw [d1,List.drop_one,List.tail_cons];refine⟨_,size_meets a b ha (by simp only [List.length_append];omega),fun x hs hq=>?_⟩;obtain⟨rfl,rfl⟩:=hq;refine⟨_,rfl,rfl,by omega,fun _=>⟨by omega,fun _=>⟨by omega,fun _=>⟨by rw [h0,hlen];omega,fun _ _ _ _=>⟨by omega,fun _=>?_⟩⟩⟩⟩⟩;have d2:=drop_rowS (c::(a++b)) (1+a.length) (by simp only [List.length_cons,List.length_append];omega);rw [show Int.toNat (1+(a.length:Int))=1+a.length by omega,show(rowS (c::(a++b)) 0 - (1+(a.length:Int)))=(((c::(a++b)).length:Int) - ((1+a.length:Nat):Int)) by rw [h0];omega,d2];have e2:(c::(a++b)).drop (1+a.length)=b++[]:=by rw [Nat.add_comm,List.drop_succ_cons,List.drop_left,List.append_nil]
 rw [e2];refine⟨_,size_meets b [] hb (by simp;omega),fun x hs hq=>?_⟩;obtain⟨rfl,rfl⟩:=hq;refine⟨_,rfl,rfl,by omega,fun _=>⟨by omega,fun _=>⟨by omega,fun _=>⟨by rw [h0,hlen];omega,fun _ _ _ _=>?_⟩⟩⟩⟩;have m1:=mid_rowS (c::(a++b)) 1 (1+a.length) (by omega) (by simp only [List.length_cons,List.length_append];omega);rw [show(((1+a.length:Nat):Int) - ((1:Nat):Int))=(1+(a.length:Int)) - 1 by omega,List.drop_one,List.tail_cons,Nat.add_sub_cancel_left,List.take_left]at m1;have m2:=mid_rowS (c::(a++b)) (1+a.length) (1+a.length+b.length) (by omega) (by simp only [List.length_cons,List.length_append];omega);rw [show(((1+a.length+b.length:Nat):Int) - ((1+a.length:Nat):Int))=(1+(a.length:Int))+b.length - (1+a.length) by omega,e2,List.append_nil,show 1+a.length+b.length - (1+a.length)=b.length by omega,List.take_length]at m2;rw [m1,m2];rfl
theorem open_meets(k k' x:List UInt8)(hk:Enc k')(hx:Enc x)(hl:k'.length+x.length≤100000000):
  Meets Tryz.prog 263 [tv k,tv (bldB 4 [] [k',x])] [] fun r hs=>r= .tuple #[tv (if k'=k then x else []),.int .i64 (if k'=k then 0 else 140)]∧hs=[]:=by
 have hb:bldB 4 [] [k',x]=4::(k'++x):=by
  have h1:=enc_pos hk;have h2:=enc_pos hx;rw [bldB,if_neg]
  ·simp
  ·intro h;simp only [List.mem_cons,List.not_mem_nil,or_false]at h;rcases h with h | h
   ·rw [←h]at h1;exact absurd h1 (by decide)
   ·rw [←h]at h2;exact absurd h2 (by decide)
 have base:=mt_opn (fun r _=>r= .tuple #[tv (if k'=k then x else []),.int .i64 (if k'=k then 0 else 140)]) ((sCode k:Nat):Int) ((sCode (bldB 4 [] [k',x]):Nat):Int);rw [code_str,code_str]at base;refine(base ?_).post fun r hs h=>⟨[],Ent.sub (List.nil_sublist _),h,rfl⟩
 unfold st_opn;simp only [srow_code,strD_rowS,empty_str,hb];intro _ _ _ _;refine⟨fun h=>by simp at h,fun _=>⟨by show(0:Int)<((4::(k'++x)).length:Int);simp only [List.length_cons];omega,fun _=>⟨fun _=>?_,fun h=>absurd (by rw [sby_at];rfl) h⟩⟩⟩;refine⟨_,two_meets 4 k' x (by decide) hk hx hl,fun y hs hq=>?_⟩;obtain⟨rfl,rfl⟩:=hq;refine⟨((sCode k':Nat):Int),((sCode x:Nat):Int),by rw [code_str,code_str];rfl,rfl,?_⟩;rw [code_str,code_str];intro _ _;refine⟨fun h=>by rw [if_pos h,if_pos h];rfl,fun h=>by rw [if_neg h,if_neg h];rfl⟩
end Go.RX.Ia
