/- A reflective symbolic executor: predicates put together to one, and in another order; frames of contracts. · A reflective symbolic executor, part 32: formulas that hold at sight, with ways that meet again. · A reflective symbolic executor, part 33: formulas that hold at sight, checked branch by branch; an answer that is told. · A reflective symbolic executor: calls that look at memory alone. · A reflective symbolic executor, part 34: a call that looks at views of whatever memory bears them, and makes new memory. · What the executor is told of a group's member. · What a printed formula is to a function's contract; short names in formulas. · What the executor is told of a group's member: calls of its small functions, of hold, Take, waits, find. · What the executor is told of Enter. -/
import Derived.Test.YtfnaoeleljhmhaaGreatM28
import Derived.Test.YtfnaoeleljhmhaaGreatRxD

namespace Go.RX
theorem perm_inj{α:Type}{a b:List α}(h:a.Perm b): ∃f:Nat→Nat,(∀i j,f i=f j→i=j)∧∀(j:Nat) x,b[j]? =some x→a[f j]? =some x:=by
 induction h with
 | nil=>exact⟨id,fun _ _ h=>h,fun _ _ h=>h⟩
 | cons x _ ih=>
  obtain⟨f,h1,h2⟩:=ih;refine⟨fun j=>match j with | 0=>0 | j+1=>f j+1,fun i j h=>?_,fun j y hy=>?_⟩
  ·cases i<;>cases j<;>simp at h ⊢
   exact h1 _ _ h
  ·cases j with
   | zero=>simpa using hy
   | succ j=>simpa using h2 j y (by simpa using hy)
 | swap x y l=>
  refine⟨fun j=>match j with | 0=>1 | 1=>0 | j+2=>j+2,fun i j h=>?_,fun j z hz=>?_⟩
  ·match i,j,h with
   | 0,0,_=>rfl
   | 1,1,_=>rfl
   | 0,1,h=>simp at h
   | 1,0,h=>simp at h
   | 0,j+2,h=>simp at h
   | 1,j+2,h=>simp at h
   | i+2,0,h=>simp at h
   | i+2,1,h=>simp at h
   | i+2,j+2,h=>simpa using h
  ·match j,hz with
   | 0,hz=>simpa using hz
   | 1,hz=>simpa using hz
   | j+2,hz=>simpa using hz
 | trans _ _ ih1 ih2=>
  obtain⟨f,f1,f2⟩:=ih1;obtain⟨g,g1,g2⟩:=ih2;exact⟨fun j=>f (g j),fun i j h=>g1 _ _ (f1 _ _ h),fun j x hx=>f2 _ _ (g2 _ _ hx)⟩
theorem Owns.perm{a b:List HP}{w:World}(h:Owns a w)(hp:a.Perm b):Owns b w:=by
 obtain⟨f,h1,h2⟩:=perm_inj hp;refine h.pick' (fun j=>some (f j)) (fun j x hx=> .inr ⟨f j,rfl,h2 j x hx⟩) ?_;intro j j' i hj hj' _ _;cases hj;simp only [Option.some.injEq]at hj';exact h1 _ _ hj'.symm
theorem Ent.perm{a b:List HP}(h:a.Perm b):Ent a b:=fun _ _ o=>o.perm (h.append_right _)
theorem Ent.frame{a b:List HP}(h:Ent a b)(r:List HP):Ent (a++r) (b++r):=fun w Fs o=>by
 rw [List.append_assoc]at o ⊢;exact h w (r++Fs) o
theorem Meets.frame{P:Program}{f:Nat}{args:List Value}{pre:List HP}{post:Value→List HP→Prop}(h:Meets P f args pre post)(r:List HP):
  Meets P f args (pre++r) fun v hs=> ∃hs0,hs=hs0++r∧post v hs0:=by
 intro w Fs o;rw [List.append_assoc]at o;refine(h w (r++Fs) o).mono ?_;rintro e w' ⟨v,hs,he,hp,ho,hs'⟩;exact⟨v,hs++r,he,⟨hs,rfl,hp⟩,by rw [List.append_assoc];exact ho,hs'⟩
def HP.star(l:List HP):HP where
 wr:=true
 p w S:= ∃T,Sep l T w∧∀k,S k↔∃i,i<l.length∧T i k
 stable w w' S h hk:=by
  obtain⟨T,hT,hS⟩:=h;refine⟨T,⟨fun i x hx=>?_,hT.apart⟩,hS⟩;have hlt:i<l.length:=(List.getElem?_eq_some_iff.1 hx).1;obtain⟨hp,hb⟩:=hT.at_ i x hx;refine⟨x.stable w w' _ hp fun k hk'=>hk k ((hS k).2 ⟨i,hlt,hk'⟩),fun k hk'=>?_⟩;have:=hk k ((hS k).2 ⟨i,hlt,hk'⟩);have hsz:=hb k hk';rw [Array.getElem?_eq_getElem hsz]at this;exact(Array.getElem?_eq_some_iff.1 this).1
theorem Ent.unstar(l:List HP):Ent [HP.star l] l:=by
 intro w Fs ⟨S,hS⟩;obtain⟨⟨T,hT,hTS⟩,hb⟩:=hS.at_ 0 (HP.star l) rfl;refine⟨fun i=>if i<l.length then T i else S (i - l.length+1),⟨?_,?_⟩⟩
 ·intro i x hx;by_cases hi:i<l.length
  ·rw [List.getElem?_append_left hi]at hx;simp only [hi,if_true];exact hT.at_ i x hx
  ·rw [List.getElem?_append_right (by omega)]at hx;simp only [hi,if_false];exact hS.at_ (i - l.length+1) x (by simpa using hx)
 ·intro i j x y hne hx hy hw k;by_cases hi:i<l.length<;>by_cases hj:j<l.length
  ·rw [List.getElem?_append_left hi]at hx;rw [List.getElem?_append_left hj]at hy;simp only [hi,hj,if_true];exact hT.apart i j x y hne hx hy hw k
  ·rw [List.getElem?_append_right (by omega)]at hy;simp only [hi,hj,if_true,if_false];intro h1;exact hS.apart 0 (j - l.length+1) (HP.star l) y (by omega) rfl (by simpa using hy) (.inl rfl) k ((hTS k).2 ⟨i,hi,h1⟩)
  ·rw [List.getElem?_append_right (by omega)]at hx;simp only [hi,hj,if_true,if_false];intro h1 h2;exact hS.apart 0 (i - l.length+1) (HP.star l) x (by omega) rfl (by simpa using hx) (.inl rfl) k ((hTS k).2 ⟨j,hj,h2⟩) h1
  ·rw [List.getElem?_append_right (by omega)]at hx hy;simp only [hi,hj,if_false];exact hS.apart (i - l.length+1) (j - l.length+1) x y (by omega) (by simpa using hx) (by simpa using hy) hw k
theorem Ent.star{l:List HP}(hw: ∀h∈l,h.wr=true):Ent l [HP.star l]:=by
 intro w Fs ⟨S,hS⟩;refine⟨fun i=>if i=0 then fun k=> ∃j,j<l.length∧S j k else S (i - 1+l.length),⟨?_,?_⟩⟩
 ·intro i x hx;by_cases hi:i=0
  ·subst hi;simp at hx;subst hx;simp only [if_true];refine⟨⟨S,⟨fun i x hx=>?_,fun i j x y hne hx hy=>?_⟩,fun k=>Iff.rfl⟩,?_⟩
   ·exact hS.at_ i x (by rw [List.getElem?_append_left (List.getElem?_eq_some_iff.1 hx).1];exact hx)
   ·exact hS.apart i j x y hne (by rw [List.getElem?_append_left (List.getElem?_eq_some_iff.1 hx).1];exact hx) (by rw [List.getElem?_append_left (List.getElem?_eq_some_iff.1 hy).1];exact hy)
   ·rintro k ⟨j,hj,hk⟩;exact(hS.at_ j (l[j]'hj) (by rw [List.getElem?_append_left hj];exact List.getElem?_eq_getElem hj)).2 k hk
  ·have e:i=(i - 1)+1:=by omega
   rw [e]at hx;simp only [hi,if_false];exact hS.at_ (i - 1+l.length) x (by rw [List.getElem?_append_right (by omega),show i - 1+l.length - l.length=i - 1 by omega];simpa using hx)
 ·have key: ∀(i:Nat) (x:HP),i≠0→([HP.star l]++Fs)[i]? =some x→(l++Fs)[i - 1+l.length]? =some x:=by
   intro i x hi hx;have e:i=(i - 1)+1:=by omega
   rw [e]at hx;rw [List.getElem?_append_right (by omega),show i - 1+l.length - l.length=i - 1 by omega];simpa using hx
  have cross: ∀(j:Nat) (y:HP) (k:Nat),j≠0→([HP.star l]++Fs)[j]? =some y→(∃m,m<l.length∧S m k)→¬S (j - 1+l.length) k:=by
   rintro j y k hj hy ⟨m,hm,hk⟩;exact hS.apart m (j - 1+l.length) (l[m]'hm) y (by omega) (by rw [List.getElem?_append_left hm];exact List.getElem?_eq_getElem hm) (key j y hj hy) (.inl (hw _ (List.getElem_mem hm))) k hk
  intro i j x y hne hx hy hwr k;by_cases hi:i=0<;>by_cases hj:j=0
  ·omega
  ·simp only [hi,hj,if_true,if_false];exact cross j y k hj hy
  ·simp only [hi,hj,if_true,if_false];exact fun h1 h2=>cross i x k hi hx h2 h1
  ·simp only [hi,hj,if_false];exact hS.apart _ _ x y (by omega) (key i x hi hx) (key j y hj hy) hwr k
theorem Ent.idx'{a b:List HP}(idx:List Nat)(hnd:idx.Nodup)(h: ∀(j:Nat) x,b[j]? =some x→∃i,idx[j]? =some i∧a[i]? =some x):Ent a b:=by
 intro w Fs o;refine o.pick' (fun j=>if j<b.length then idx[j]? else some (a.length+(j - b.length))) ?_ ?_
 ·intro j x hx;right;by_cases hj:j<b.length
  ·rw [List.getElem?_append_left hj]at hx;obtain⟨i,h1,h2⟩:=h j x hx;refine⟨i,by simp only [hj,if_true,h1],?_⟩;rw [List.getElem?_append_left (List.getElem?_eq_some_iff.1 h2).1];exact h2
  ·rw [List.getElem?_append_right (by omega)]at hx;refine⟨_,by simp only [hj,if_false];rfl,?_⟩;rw [List.getElem?_append_right (by omega),Nat.add_sub_cancel_left];exact hx
 ·intro j j' i hj hj' _ _;by_cases h1:j<b.length
  ·have hx:b[j]? =some b[j]:=List.getElem?_eq_getElem h1;obtain⟨i1,q1,q2⟩:=h j _ hx;have hi1:=(List.getElem?_eq_some_iff.1 q2).1;simp only [h1,if_true,q1,Option.some.injEq]at hj;subst hj;by_cases h2:j'<b.length
   ·simp only [h2,if_true]at hj';obtain⟨l1,e1⟩:=List.getElem?_eq_some_iff.1 q1;obtain⟨l2,e2⟩:=List.getElem?_eq_some_iff.1 hj';exact(List.getElem_inj hnd).1 (e1.trans e2.symm)
   ·simp only [h2,if_false,Option.some.injEq]at hj';omega
  ·simp only [h1,if_false,Option.some.injEq]at hj;by_cases h2:j'<b.length
   ·have hx:b[j']? =some b[j']:=List.getElem?_eq_getElem h2;obtain⟨i1,q1,q2⟩:=h j' _ hx;have hi1:=(List.getElem?_eq_some_iff.1 q2).1;simp only [h2,if_true,q1,Option.some.injEq]at hj';omega
   ·simp only [h2,if_false,Option.some.injEq]at hj';omega
def HP.ex{α:Type}(F:α→HP):HP where
 wr:=true
 p w S:= ∃a,(F a).p w S
 stable w w' S h hk:=by
  obtain⟨a,ha⟩:=h;exact⟨a,(F a).stable w w' S ha hk⟩
theorem Ent.ex{α:Type}{F:α→HP}(a:α)(hw:(F a).wr=true):Ent [F a] [HP.ex F]:=by
 have:=Ent.put (a:=[F a]) 0 (F a) (HP.ex F) rfl (fun _=>hw) fun w S h=>⟨S,fun _ h=>h,⟨a,h⟩⟩
 simpa using this
theorem Meets.ex{α:Type}{F:α→HP}{P:Program}{f:Nat}{args:List Value}{R:List HP}{post:Value→List HP→Prop}(h: ∀a,Meets P f args (F a::R) post):Meets P f args (HP.ex F::R) post:=by
 intro w Fs ⟨S,hS⟩;obtain⟨⟨a,ha⟩,hb⟩:=hS.at_ 0 (HP.ex F) rfl;refine h a w Fs ⟨S,⟨fun i x hx=>?_,fun i j x y hne hx hy hw=>?_⟩⟩
 ·match i,hx with
  | 0,hx=>simp at hx;subst hx;exact⟨ha,hb⟩
  | i+1,hx=>exact hS.at_ (i+1) x (by simpa using hx)
 ·match i,j,hne,hx,hy with
  | 0,0,hne,_,_=>exact absurd rfl hne
  | 0,j+1,_,_,hy=>exact hS.apart 0 (j+1) (HP.ex F) y (by omega) rfl (by simpa using hy) (.inl rfl)
  | i+1,0,_,hx,_=>exact hS.apart (i+1) 0 x (HP.ex F) (by omega) (by simpa using hx) rfl (.inr rfl)
  | i+1,j+1,hne,hx,hy=>exact hS.apart (i+1) (j+1) x y hne (by simpa using hx) (by simpa using hy) hw
end Go.RX

namespace Go.RX
def Cnt.only(c:Cnt):Bool:=c.i==0&&c.a==0&&c.bo==0&&c.p==0&&c.r==0
end Go.RX

namespace Go.RX
def SV.same:SV→SV→Bool
 | .int k (.lit n),.int k' (.lit m)=>k==k'&&n==m
 | .bool (.lit a),.bool (.lit b)=>a==b
 | .str l,.str l'=>l==l'
 | .agg a,.agg b=>litSame (expandR a) (expandR b)
 | .tup [a,b],.tup [c,d]=>SV.same a c&&SV.same b d
 | _,_=>false
end Go.RX

namespace Go.RX
theorem Owns.dup{h:HP}{hs:List HP}{w:World}(hw:h.wr=false)(ho:Owns (h::hs) w):Owns (h::h::hs) w:=by
 obtain⟨S,hS⟩:=ho;refine⟨fun i=>S (i - 1),⟨?_,?_⟩⟩
 ·intro i x hx;cases i with
  | zero=>
   simp at hx;subst hx;exact hS.at_ 0 _ rfl
  | succ i=>exact hS.at_ i x (by simpa using hx)
 ·intro i j x y hij hx hy hwr;cases i with
  | zero=>
   cases j with
   | zero=>exact absurd rfl hij
   | succ j=>
    simp at hx;subst hx;cases j with
    | zero=>
     simp at hy;subst hy;simp [hw]at hwr
    | succ j=>exact hS.apart 0 (j+1) _ y (by omega) rfl (by simpa using hy) hwr
  | succ i=>
   cases j with
   | zero=>
    simp at hy;subst hy;cases i with
    | zero=>
     simp at hx;subst hx;simp [hw]at hwr
    | succ i=>exact hS.apart (i+1) 0 x _ (by omega) (by simpa using hx) rfl hwr
   | succ j=>exact hS.apart i j x y (by omega) (by simpa using hx) (by simpa using hy) hwr
theorem Meets.look{P:Program}{f:Nat}{args:List Value}{h:HP}{Q:Value→Prop}(hw:h.wr=false)(hm:Meets P f args [h] fun v _=>Q v):Meets P f args [h] fun v hs=>Q v∧hs=[h]:=by
 intro w Fs ho;refine(hm w (h::Fs) (Owns.dup hw ho)).mono ?_;rintro e w' ⟨v,hs,rfl,hq,ho',hsm⟩;exact⟨v,[h],rfl,⟨hq,rfl⟩,Owns.sub ho' (List.sublist_append_right _ _),hsm⟩
theorem Meets.know{P:Program}{f:Nat}{args:List Value}{pre:List HP}{p Q:Value→List HP→Prop}(h:Meets P f args pre p)(hq: ∀v hs,p v hs→∀(w:World) (Fs:List HP),Owns (hs++Fs) w→Q v hs):
  Meets P f args pre fun v hs=>p v hs∧Q v hs:=by
 intro w Fs o;refine(h w Fs o).mono ?_;rintro e w' ⟨v,hs,he,hp,ho,hs'⟩;exact⟨v,hs,he,⟨hp,hq v hs hp _ _ ho⟩,ho,hs'⟩
end Go.RX

namespace Go.RX
def Bears(B:List HP)(h:HP):Prop:=h.wr=false∧∀(w:World) (S:Nat→Nat→Prop),Sep B S w→∃S':Nat→Prop,h.p w S'∧∀k,S' k→∃i,i<B.length∧S i k
theorem Sep.mid{A B C:List HP}{S:Nat→Nat→Prop}{w:World}(h:Sep (A++B++C) S w):Sep B (fun i=>S (A.length+i)) w:=by
 have key: ∀(i:Nat) x,B[i]? =some x→(A++B++C)[A.length+i]? =some x:=by
  intro i x hx;have hl:i<B.length:=(List.getElem?_eq_some_iff.1 hx).1;rw [List.getElem?_append_left (by simp;omega),List.getElem?_append_right (by omega),Nat.add_sub_cancel_left,hx]
 exact⟨fun i x hx=>h.at_ _ x (key i x hx),fun i j x y hij hx hy hw=>h.apart _ _ x y (by omega) (key i x hx) (key j y hy) hw⟩
theorem Bears.own{t s n:Nat}{v:Value}{cs:List Value}:Bears [sliHP true t s v n cs] (sliHP false t s v n cs):=by
 refine⟨rfl,fun w S h=>?_⟩;exact⟨_,sli_look (h.at_ 0 _ rfl).1,fun k hk=>⟨0,by simp,hk.1⟩⟩
theorem Bears.mid{A B C:List HP}{h:HP}(hb:Bears B h):Bears (A++B++C) h:=by
 refine⟨hb.1,fun w S hS=>?_⟩;obtain⟨S',hp,hs⟩:=hb.2 w _ (Sep.mid hS);refine⟨S',hp,fun k hk=>?_⟩;obtain⟨i,hi,hk⟩:=hs k hk;exact⟨A.length+i,by simp;omega,hk⟩
theorem Bears.left{B C:List HP}{h:HP}(hb:Bears B h):Bears (B++C) h:=Bears.mid (A:=[]) hb
theorem Bears.right{A B:List HP}{h:HP}(hb:Bears B h):Bears (A++B) h:=by
 have:=Bears.mid (A:=A) (C:=[]) hb
 rwa [List.append_nil]at this
theorem Bears.map{B:List HP}{h h':HP}(hb:Bears B h)(hw:h'.wr=false)(hp: ∀w S,h.p w S→∃S':Nat→Prop,h'.p w S'∧∀k,S' k→S k):Bears B h':=by
 refine⟨hw,fun w S hS=>?_⟩;obtain⟨S1,h1,h2⟩:=hb.2 w S hS;obtain⟨S2,h3,h4⟩:=hp w S1 h1;exact⟨S2,h3,fun k hk=>h2 k (h4 k hk)⟩
theorem view_sub{w:World}{t s n lo hi:Nat}{mx:Option Nat}{v:Value}{cs:List Value}{S:Nat→Prop}(h:(sliHP false t s v n cs).p w S)(h1:lo≤hi)(h2:hi≤n)(h3: ∀m,mx=some m→hi≤m):
  ∃S':Nat→Prop,(sliHP false t s (subSlice s v lo hi mx) (hi - lo) ((cs.drop (lo*s)).take ((hi - lo)*s))).p w S'∧∀k,S' k→S k:=by
 obtain⟨h0,hS⟩:=h;simp only [Bool.false_eq_true,if_false]at h0;obtain⟨hlen,a,m,c,rfl,rfl,hmc,hn,hv⟩:=h0;refine⟨fun k=>(subSlice s (.slice a m c) lo hi mx).ownBlock=some k∧0<hi - lo,⟨?_,fun k=>by simp⟩,?_⟩
 ·simp only [Bool.false_eq_true,if_false];have hm3:(hi - lo)*s=hi*s - lo*s:=by rw [Nat.sub_mul]
  have hm1:hi*s≤m*s:=Nat.mul_le_mul_right s h2;have hm2:lo*s≤hi*s:=Nat.mul_le_mul_right s h1;refine⟨by rw [List.length_take,List.length_drop,hlen];omega,_,_,_,rfl,rfl,?_,?_,?_⟩
  ·cases mx with
   | none=>simp;omega
   | some x=>have:=h3 x rfl;simp;omega
  ·intro he;split at he
   ·have:=hn he;omega
   ·rw [Option.map_eq_none_iff]at he;have:=hn he;omega
  ·intro ad he;by_cases hlo:lo=hi
   ·subst hlo;refine⟨by omega,?_⟩;simp
   ·have hlt:mx.getD c≠lo:=by
     cases mx with
     | none=>simp;omega
     | some x=>have:=h3 x rfl;simp;omega
    rw [if_neg hlt,Option.map_eq_some_iff]at he;obtain⟨ad0,rfl,rfl⟩:=he;obtain⟨g1,g2⟩:=hv ad0 rfl;refine⟨fun _=>?_,fun j u hu=>?_⟩
    ·have:=g1 (by omega);unfold Addr.add;split
     ·exact this
     ·rfl
    ·rw [List.getElem?_take]at hu;split at hu
     ·rw [List.getElem?_drop]at hu;have:=g2 _ _ hu;rw [←this,addr_add_add]
     ·cases hu
 ·rintro k ⟨hk,hpos⟩;refine(hS k).2 ⟨?_,.inr (by omega)⟩;unfold subSlice at hk;simp only [Value.ownBlock]at hk ⊢;cases a with
  | none=>have:=hn rfl;omega
  | some ad=>
   have hb:(ad.add (lo*s)).block=ad.block:=by unfold Addr.add;split<;>rfl
   by_cases hc:mx.getD c=lo
   ·rw [if_pos hc]at hk;exact hk
   ·rw [if_neg hc]at hk;simp only [Option.map_some,hb]at hk;exact hk
theorem Bears.sub{B:List HP}{t s n lo hi:Nat}{mx:Option Nat}{v:Value}{cs:List Value}(hb:Bears B (sliHP false t s v n cs))(h1:lo≤hi)(h2:hi≤n)(h3: ∀m,mx=some m→hi≤m):
  Bears B (sliHP false t s (subSlice s v lo hi mx) (hi - lo) ((cs.drop (lo*s)).take ((hi - lo)*s))):=hb.map rfl fun _ _ h=>view_sub h h1 h2 h3
theorem Bears.row{b t lo n m:Nat}{wr:Bool}{cs:List Value}(h1:lo+n≤cs.length)(h2:n≤m):
  Bears [rowHP b wr cs] (sliHP false t 1 (.slice (some ⟨b,lo,none⟩) n m) n ((cs.drop lo).take n)):=by
 refine⟨rfl,fun w S h=>?_⟩;obtain⟨⟨hs,ty,fz,hb,_⟩,_⟩:=h.at_ 0 _ rfl;refine⟨fun k=>k=b∧0<n,⟨?_,fun k=>?_⟩,fun k hk=>⟨0,by simp,(hs k).2 hk.1⟩⟩
 ·simp only [Bool.false_eq_true,if_false];refine⟨by rw [List.length_take,List.length_drop];omega,_,_,_,rfl,rfl,h2,by simp,?_⟩;intro ad he;cases he;refine⟨fun _=>rfl,fun j u hu=>?_⟩;rw [List.getElem?_take]at hu;split at hu
  ·rw [List.getElem?_drop]at hu;have hx:=hu;have hA:(⟨b,lo,none⟩:Addr).add j=⟨b,lo+j,none⟩:=by
    unfold Addr.add;by_cases h0:j=0
    ·rw [if_pos h0,h0];rfl
    ·rw [if_neg h0]
   rw [hA];simp only [World.cell?,hb];simpa using hx
  ·cases hu
 ·simp [Value.ownBlock,eq_comm]
end Go.RX
namespace Go.RX
def ends(k m:Nat)(hs:List HP):List HP:=hs.take k++(hs.drop k).drop ((hs.drop k).length - m)
theorem Bears.nil{B:List HP}{t s:Nat}:Bears B (sliHP false t s (.slice none 0 0) 0 []):=by
 refine⟨rfl,fun w S _=>⟨fun _=>False,⟨?_,fun k=>by simp⟩,fun _ h=>h.elim⟩⟩;simp only [Bool.false_eq_true,if_false];refine⟨by simp,none,0,0,rfl,rfl,Nat.le_refl _,fun _=>rfl,?_⟩;intro ad h;cases h
end Go.RX

namespace Go.RX.Gb
open Go.RX
def u8(i:Nat):SV:= .int .u8 (.var i)
def u64(i:Nat):SV:= .int .u64 (.var i)
def i64(i:Nat):SV:= .int .i64 (.var i)
def bl(i:Nat):SV:= .bool (.nz (.var i))
def id16(a:Nat):SV:= .seg .u8 16 (.avar a)
def tm(i:Nat):SV:= .strE (.srow (.var i))
def waitC(a:Nat):List Col:=[⟨.int .u8,16,.avar a⟩,⟨.int .u64,1,.avar (a+1)⟩,⟨.int .u8,1,.avar (a+2)⟩,⟨.int .u8,1,.avar (a+3)⟩,⟨.int .u64,1,.avar (a+4)⟩,⟨.sv,1,.avar (a+5)⟩]
def heldC(a:Nat):List Col:=waitC a++[⟨.int .u64,1,.avar (a+6)⟩,⟨.bool,1,.avar (a+7)⟩]
def devC(a:Nat):List Col:=[⟨.int .u8,1,.avar a⟩,⟨.int .u8,1,.avar (a+1)⟩]
def memR(i a v:Nat):List SV:=[.ifp 135 1 0,u8 i,u8 (i+1),bl (i+2),id16 a,u64 (i+3),.vv v,.vv (v+1),.vv (v+2)]
def distR(i a:Nat):SV:= .agg [id16 a,u64 i,u8 (i+1),u8 (i+2),u64 (i+3),tm (i+4)]
def heldK(v n a:Nat):Ck:= .sli true v 144 23 (.var n) (heldC a)
def waitK(v n a:Nat):Ck:= .sli true v 51 21 (.var n) (waitC a)
def findHp:List Ck:=[.row 0 true (memR 0 0 0),heldK 1 4 1]
def findCnt:Cnt:={b:=2,v:=3,i:=6,a:=9}
def findA:List SV:=[.ptr 0 0,u64 5]
def waitHp:List Ck:=[.row 0 true (memR 0 0 0),waitK 2 4 1]
def waitA:List SV:=[.ptr 0 0,distR 5 7]
def waitCnt:Cnt:={b:=2,v:=3,i:=10,a:=8}
def tickA:List SV:=[.ptr 0 0,u64 5]
def newHeld(v a:Nat):List Ck→List Ck
 | .sli true v' 144 23 n cs::r=>if v'=v then .sli true v 144 23 n (heldC a)::r else .sli true v' 144 23 n cs::newHeld v a r
 | x::r=>x::newHeld v a r
 | []=>[]
def loops(f id:Nat):Option LoopAnn:=
 match f,id with
 | 101,0=>some {inc:={i:=2},slots:=fun c=>[(9,i64 c.i),(10,i64 (c.i+1))]}
 | 57,0=>some {inc:={i:=1},slots:=fun c=>[(12,i64 c.i)]}
 | 103,0=>some {inc:={i:=1},slots:=fun c=>[(8,i64 c.i)]}
 | 59,0=>some {inc:={i:=2,a:=8},slots:=fun c=>[(5,i64 c.i),(6,i64 (c.i+1))],hp:=fun c h=>newHeld 1 c.a h}
 | _,_=>none
def insGA:List SV:=[.vsub 0 [⟨.lit 0,.var 0,some (.var 0)⟩] 23,i64 1,.vv 1]
def insGHp:List Ck:=[.sli false 0 144 23 (.var 0) (heldC 0),.sli false 1 144 23 (.lit 1) (heldC 8)]
def insGCnt:Cnt:={v:=2,i:=2,a:=16}
def insPA:List SV:=[.vsub 0 [⟨.lit 0,.var 0,some (.var 2)⟩] 23,i64 1,.vv 1]
def insPHp:List Ck:=[.sli true 0 144 23 (.var 2) [⟨.ix 0,23,.avar 0⟩],.sli true 1 144 23 (.lit 1) [⟨.ix 0,23,.avar 1⟩]]
def insPCnt:Cnt:={v:=2,i:=3,a:=2}
def isSli(v:Nat):Ck→Bool
 | .sli _ v' .. =>v'==v
 | _=>false
def rootOf:SV→Option Nat
 | .vv v=>some v
 | .vsub v _ _=>some v
 | _=>none
def useSli(x:SV)(hp:List Ck):List Nat:=match rootOf x with | some v=>(hp.findIdx? (isSli v)).toList | none=>[]
def overCall:CallAnn:={use:=fun az hp=>match az with | [a,b]=>useSli a hp++useSli b hp | _=>[],val:=fun _=> .bool (.lit false),new:=fun _ h=>h}
def calleesI(f:Nat):Option CallAnn:=if f=142 then some overCall else none
end Go.RX.Gb

namespace Go.RX
open Go.Proofs
section
variable {C:Ctx} {f:Nat} {fd:Func} (args:List SV) (hp:List Ck) (cnt:Cnt) (ρ:Env) {Post:Value→List HP→Prop} {s:Prop}
theorem mtB(hf:Tryz.prog.funcs[f]? =some fd)(hv:VC Tryz.prog (fun v _=>Post v []) (runF C f args hp cnt fd) ρ (fun _=>LC.none)=s)(h:s)(hT:checkT Tryz.prog C.T=true:=by exact okT)(hFT:FTOk Tryz.prog C.FT:=by exact okFT)(hl:Lens ρ cnt:=by constructor<;>rfl)
  (hPu:PureOk Tryz.prog C:=by exact PureOk.none rfl):Meets Tryz.prog f (SV.vals ρ args) (hp.map (Ck.den ρ)) Post:=
 Meets.post (Meets.of_runE (C:=C) hT hFT okM hf hl rfl hv h hPu) fun _ hs hq=>⟨_,Ent.sub (List.nil_sublist hs),hq⟩
theorem mtK(k:Nat)(hf:Tryz.prog.funcs[f]? =some fd)(hv:VC Tryz.prog (fun v hs=>Post v (hs.take k)) (runF C f args hp cnt fd) ρ (fun _=>LC.none)=s)(h:s)(hT:checkT Tryz.prog C.T=true:=by exact okT)(hFT:FTOk Tryz.prog C.FT:=by exact okFT)(hl:Lens ρ cnt:=by constructor<;>rfl)
  (hPu:PureOk Tryz.prog C:=by exact PureOk.none rfl):Meets Tryz.prog f (SV.vals ρ args) (hp.map (Ck.den ρ)) Post:=
 Meets.post (Meets.of_runE (C:=C) hT hFT okM hf hl rfl hv h hPu) fun _ hs hq=>⟨_,Ent.sub (List.take_sublist k hs),hq⟩
theorem mtI(hf:Tryz.prog.funcs[f]? =some fd)(hv:VC Tryz.prog Post (runF C f args hp cnt fd) ρ (fun _=>LC.none)=s)(h:s)(hT:checkT Tryz.prog C.T=true:=by exact okT)(hFT:FTOk Tryz.prog C.FT:=by exact okFT)(hl:Lens ρ cnt:=by constructor<;>rfl)
  (hPu:PureOk Tryz.prog C:=by exact PureOk.none rfl):Meets Tryz.prog f (SV.vals ρ args) (hp.map (Ck.den ρ)) Post:=
 Meets.of_runE (C:=C) hT hFT okM hf hl rfl hv h hPu
end
abbrev bo(v:V1)(n:Int)(A:Nat→Int):HP:=sliHP true 5 1 v.v n.toNat (tabL n.toNat [colI .u8 1 A])
abbrev PT:=Value→List HP→Prop
abbrev Cl(f:Nat)(a:List Value)(L:List HP)(K:Value→List HP→List HP→Prop):Prop:= ∃post,Meets Tryz.prog f a L post∧∀x hs,post x hs→K x hs L
abbrev I64(x:Int)(p:Prop):Prop:=Need (-9223372036854775808≤x) (Need (x≤9223372036854775807) p)
abbrev U47(x:Int)(p:Prop):Prop:=Need (x≤140737488355328) p
abbrev colS(w:Nat)(f:Nat→Int)(i:Nat):List Value:=colV w (fun j=> .string ⟨(sDec (f j)).toArray⟩) i
abbrev colX(w:Nat)(V:Nat→V1)(f:Nat→Int)(i:Nat):List Value:=colV w (fun j=>(V (f j).toNat).v) i
abbrev Gb.mS(b b1:Nat)(x0 x1:Int)(s:Bool)(A:Nat→Int)(x3:Int)(v0 v1 v2:Value):HP:=rowHP b true ((.iface 135 (.pointer (some ⟨b1,0,none⟩)))::(.int .u8 x0::(.int .u8 x1::(.bool s::(List.append (segCells .u8 16 A) ([.int .u64 x3,v0,v1,v2]))))))
abbrev Gb.mR(b b1:Nat)(x0 x1 x2:Int)(A:Nat→Int)(x3:Int)(v0 v1 v2:V1):HP:=rowHP b true ((.iface 135 (.pointer (some ⟨b1,0,none⟩)))::(.int .u8 x0::(.int .u8 x1::(.bool (!(x2==0))::(List.append (segCells .u8 16 A) ([.int .u64 x3,v0.v,v1.v,v2.v]))))))
abbrev Gb.hK(md:Bool)(v:V1)(n:Int)(A B C D E F G H:Nat→Int):HP:=sliHP md 144 23 v.v (Int.toNat n) (tabL (Int.toNat n) [colI .u8 16 A,colI .u64 1 B,colI .u8 1 C,colI .u8 1 D,colI .u64 1 E,colS 1 F,colI .u64 1 G,colB 1 H])
abbrev Gb.wK(md:Bool)(v:V1)(n:Int)(A B C D E F:Nat→Int):HP:=sliHP md 51 21 v.v (Int.toNat n) (tabL (Int.toNat n) [colI .u8 16 A,colI .u64 1 B,colI .u8 1 C,colI .u8 1 D,colI .u64 1 E,colS 1 F])
abbrev Gb.dK(md:Bool)(v:V1)(n:Int)(A B:Nat→Int):HP:=sliHP md 23 2 v.v (Int.toNat n) (tabL (Int.toNat n) [colI .u8 1 A,colI .u8 1 B])
abbrev Gb.oK(md:Bool)(v:V1)(n:Int)(A B C D E F G H:Nat→Int):HP:=sliHP md 74 23 v.v (Int.toNat n) (tabL (Int.toNat n) [colI .u8 1 A,colI .u8 1 B,colI .u8 16 C,colI .u64 1 D,colI .u8 1 E,colI .u8 1 F,colI .u64 1 G,colS 1 H])
abbrev Gb.dV(A:Nat→Int)(a b c d k:Int):Value:= .agg (List.append (segCells .u8 16 A) ([.int .u64 a,.int .u8 b,.int .u8 c,.int .u64 d,.string ⟨(strD (srowF k)).toArray⟩])).toArray
noncomputable def Gb.cxA:Ctx:={T:=TT,FT:=FT,loops:=Gb.loops,callees:=Gb.calleesI}
end Go.RX

namespace Go.RX.Gf
open Go.RX Go.RX.Gb
def isRow(b:Nat):Ck→Bool
 | .row b' .. =>b'==b
 | _=>false
def slotV(k b:Nat)(hp:List Ck):Option Nat:=
 match hp.find? (isRow b)with
 | some (.row _ _ cs)=>match cs[k]? with
  | some (.vv v)=>some v
  | _=>none
 | _=>none
def useK(k:Nat)(az:List SV)(hp:List Ck):List Nat:=
 match az with
 | .ptr b _::_=>match hp.findIdx? (isRow b)with
  | some i=>i::(match slotV k b hp with | some v=>(hp.findIdx? (isSli v)).toList | none=>[])
  | none=>[]
 | _=>[]
def useKK(az:List SV)(hp:List Ck):List Nat:=
 match az with
 | .ptr b _::_=>match hp.findIdx? (isRow b)with
  | some i=>i::([6,7,8].flatMap fun k=>match slotV k b hp with | some v=>(hp.findIdx? (isSli v)).toList | none=>[])
  | none=>[]
 | _=>[]
def lastV:List SV→Option Nat
 | []=>none
 | [.vv v]=>some v
 | _::r=>lastV r
def useR(az:List SV)(hp:List Ck):List Nat:=
 match az with
 | .agg cs::_=>match lastV cs with | some v=>(hp.findIdx? (isSli v)).toList | none=>[]
 | .vv v::_=>(hp.findIdx? (isSli v)).toList
 | _=>[]
def boolCall(use:List SV→List Ck→List Nat:=fun _ _=>[]):CallAnn:={use,inc:={bo:=1},val:=fun c=> .bool (.var c.bo),new:=fun _ h=>h}
def kidCall:CallAnn:={use:=fun _ _=>[],inc:={i:=1},val:=fun c=>u64 c.i,new:=fun _ h=>h}
def ordCall:CallAnn:={use:=fun _ _=>[],inc:={i:=1},val:=fun c=>i64 c.i,new:=fun _ h=>h}
def findCall:CallAnn:={use:=useK 7,inc:={i:=1,bo:=1},val:=fun c=> .tup [i64 c.i,.bool (.var c.bo)],new:=fun _ h=>h}
def setAt(k v:Nat)(ck:Ck):List Ck→List Ck
 | [.row b w cs,_]=>[.row b w (cs.set k (.vv v)),ck]
 | l=>l
def holdCall:CallAnn:={use:=useK 7,inc:={v:=1,i:=1,a:=8},val:=fun _=> .tup [],new:=fun c h=>setAt 7 c.v (heldK c.v c.i c.a) h}
def tickCall:CallAnn:=holdCall
def waitsCall:CallAnn:={use:=useK 8,inc:={v:=1,i:=2,a:=6},val:=fun c=>i64 (c.i+1),new:=fun c h=>setAt 8 c.v (waitK c.v c.i c.a) h}
def takeNew(v i a:Nat):List Ck→List Ck
 | [.row b w cs,m,_,_]=>[.row b w ((cs.set 7 (.vv v)).set 8 (.vv (v+1))),m,heldK v i a,waitK (v+1) (i+1) (a+8)]
 | l=>l
def takeCall:CallAnn:={use:=useKK,inc:={v:=2,i:=3,a:=14},val:=fun c=>i64 (c.i+2),new:=fun c h=>takeNew c.v c.i c.a h}
def useI(az:List SV)(hp:List Ck):List Nat:=
 match az with
 | [x,_,.sl b _ _ _ _]=>useSli x hp++(hp.findIdx? (isRow b)).toList
 | _=>[]
def insCall:CallAnn:={use:=useI,inc:={v:=1,i:=1,a:=8},val:=fun c=> .vv c.v,new:=fun c _=>[heldK c.v c.i c.a]}
def callees(f:Nat):Option CallAnn:=
 match f with
 | 21=>some kidCall
 | 56=>some (boolCall)
 | 53=>some (boolCall useR)
 | 51=>some (boolCall useR)
 | 97=>some (boolCall useR)
 | 98=>some ordCall
 | 58=>some findCall
 | 99=>some insCall
 | 54=>some holdCall
 | 57=>some waitsCall
 | 13=>some tickCall
 | 11=>some takeCall
 | _=>none
def calleesBut(l:List Nat)(f:Nat):Option CallAnn:=if l.contains f then none else callees f
def loops(f id:Nat):Option LoopAnn:=
 match f,id with
 | 76,0=>some {inc:={i:=1},slots:=fun c=>[(8,i64 c.i)]}
 | 159,0=>some {inc:={i:=1},slots:=fun c=>[(8,i64 c.i)]}
 | 51,0=>some {inc:={i:=1},slots:=fun c=>[(3,i64 c.i)]}
 | 27,0=>some {inc:={i:=1},slots:=fun c=>[(19,i64 c.i)]}
 | f,id=>Gb.loops f id
def ros(i a v:Nat):SV:= .agg [id16 a,u64 i,.vv v]
def dev(i:Nat):SV:= .agg [u8 i,u8 (i+1)]
def kidA:List SV:=[u64 0,dev 1]
def kidHp:List Ck:=[]
def kidCnt:Cnt:={i:=3}
def mayA:List SV:=[distR 0 0]
def mayCnt:Cnt:={i:=5,a:=1}
def hasA:List SV:=[ros 0 0 0,dev 1]
def hasHp:List Ck:=[.sli true 0 23 2 (.var 3) (devC 1)]
def hasCnt:Cnt:={v:=1,i:=4,a:=3}
def rmayA:List SV:=[ros 0 0 0]
def smallA:List SV:=[.vv 0]
def ordA:List SV:=[dev 0,dev 2]
def ordCnt:Cnt:={i:=4}
def ownA:List SV:=[.ptr 0 0]
def keyA:List SV:=[.ptr 0 0,dev 5,u64 7]
def keyCnt:Cnt:={b:=2,v:=3,i:=8,a:=9}
def holdA:List SV:=[.ptr 0 0,distR 5 9]
def holdCnt:Cnt:={b:=2,v:=3,i:=10,a:=10}
def memOK(v n a:Nat):Ck:= .sli true v 23 2 (.var n) (devC a)
def wholeHp:List Ck:=[.row 0 true (memR 0 0 0),memOK 0 4 1,heldK 1 5 3,waitK 2 6 11]
def takeA:List SV:=[.ptr 0 0,distR 7 17]
def takeCnt:Cnt:={b:=2,v:=3,i:=12,a:=18}
end Go.RX.Gf

namespace Go.RX.Gl
open Go.RX Go.RX.Gb Go.RX.Gf
def cloneCall:CallAnn:={use:=useR,inc:={v:=1,i:=1,a:=2},val:=fun c=> .vv c.v,new:=fun c h=>h++[memOK c.v c.i c.a]}
def atomCall:CallAnn:={use:=fun _ _=>[],inc:={i:=1},val:=fun c=> .agg [tm c.i],new:=fun _ h=>h}
def freshCall:CallAnn:={use:=fun az hp=>match az with | .ptr b _::_=>(hp.findIdx? (isRow b)).toList | _=>[],inc:={i:=2},val:=fun c=> .agg [tm c.i],new:=fun c h=>match h with | [.row b w _]=>[.row b w [u64 (c.i+1)]] | l=>l}
def callees(f:Nat):Option CallAnn:=
 match f with
 | 52=>some cloneCall
 | 16=>some atomCall
 | 254=>some freshCall
 | 9=>none
 | f=>Gf.callees f
def endsAt(v a:Nat):Ck→Ck
 | .sli true v' 144 23 n cs=>if v'=v then .sli true v 144 23 n (cs.take 6++[⟨.int .u64,1,.avar a⟩,⟨.bool,1,.avar (a+1)⟩])else .sli true v' 144 23 n cs
 | x=>x
def retell(v i a:Nat)(hp:List Ck):List Ck:=
 match slotV 7 0 hp,slotV 8 0 hp with
 | some h,some w=>hp.map fun
  | .row 0 wr cs=> .row 0 wr ((cs.set 7 (.vv v)).set 8 (.vv (v+1)))
  | .sli true v' 144 23 n cs=>if v'=h then heldK v i a else .sli true v' 144 23 n cs
  | .sli true v' 51 21 n cs=>if v'=w then waitK (v+1) (i+1) (a+8)else .sli true v' 51 21 n cs
  | x=>x
 | _,_=>hp
def outC(a:Nat):List Col:=[⟨.int .u8,1,.avar a⟩,⟨.int .u8,1,.avar (a+1)⟩,⟨.int .u8,16,.avar (a+2)⟩,⟨.int .u64,1,.avar (a+3)⟩,⟨.int .u8,1,.avar (a+4)⟩,⟨.int .u8,1,.avar (a+5)⟩,⟨.int .u64,1,.avar (a+6)⟩,⟨.sv,1,.avar (a+7)⟩]
def outAt(v i a:Nat):Ck→Ck
 | .sli true _ 74 23 _ _=> .sli true v 74 23 (.var i) (outC a)
 | x=>x
def loops(f id:Nat):Option LoopAnn:=
 match f,id with
 | 9,1=>some {inc:={i:=1,a:=2},slots:=fun c=>[(59,i64 c.i)],hp:=fun c h=>h.map (endsAt 1 c.a)}
 | 9,3=>some {pre:=[.cell 0 8 51],inc:={i:=3,v:=2,a:=14},slots:=fun c=>[(148,i64 c.i)],hp:=fun c h=>retell c.v (c.i+1) c.a h}
 | 9,5=>some {pre:=[.slot 13 74],inc:={i:=2,v:=1,a:=8},slots:=fun c=>[(171,i64 c.i),(13,.vv c.v)],hp:=fun c h=>h.map (outAt c.v (c.i+1) c.a)}
 | f,id=>Gf.loops f id
def entHp:List Ck:=[.row 0 true (memR 0 0 0),memOK 0 4 1,heldK 1 5 3,waitK 2 6 11,.row 1 true [u64 7],memOK 3 9 18]
def entA:List SV:=[.ptr 0 0,ros 8 17 3,u64 10]
def entCnt:Cnt:={b:=2,v:=4,i:=11,a:=20}
end Go.RX.Gl
