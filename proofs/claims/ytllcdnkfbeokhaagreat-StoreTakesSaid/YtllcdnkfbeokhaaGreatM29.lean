/- A store's codecs. -/
import Derived.Test.YtllcdnkfbeokhaaGreatM28
open Go.IntKind renaming wrap → ae
open Go.Proofs.Tryz renaming prog → aqQ
open Int renaming toNat_natCast → aqD
open List renaming eq_nil_of_length_eq_zero → aqF, getD_cons_zero → ah, getD_eq_getElem?_getD → aqN, getElem?_append_left → aqs, getElem?_eq_none → aq3, length_append → aql, length_singleton → aqm, mem_append → aqC, mem_singleton → aqx
namespace Go.Vs
def iI(l:List Nat):Nat:=l.foldl (fun n c=>n*256+c) 0
def be:Nat→Nat→List Nat
 | 0,_=>[]
 | k+1,n=>be k (n/256)++[n%256]
theorem au(k n:Nat):(be k n).length=k:=by
 induction k generalizing n with
 | zero=>rfl
 | succ k ih=>simp [be,ih]
theorem aao(k n:Nat): ∀x∈be k n,x<256:=by
 induction k generalizing n with
 | zero=>simp [be]
 | succ k ih=>
  intro x hx;simp only [be,aqC,aqx]at hx;rcases hx with hx | rfl
  ·exact ih _ x hx
  ·omega
theorem Bw(l:List Nat)(c:Nat):iI (l++[c])=iI l*256+c:=by
 simp [iI,List.foldl_append]
theorem IG(k n:Nat)(h:n<256^k):iI (be k n)=n:=by
 induction k generalizing n with
 | zero=>
  have:n=0:=by simpa using h
  subst this;rfl
 | succ k ih=>
  rw [be,Bw,ih _ (by rw [Nat.pow_succ]at h;omega)];omega
theorem Cx(k:Nat)(l:List Nat)(hl:l.length=k)(h: ∀x∈l,x<256):be k (iI l)=l∧iI l<256^k:=by
 induction k generalizing l with
 | zero=>
  rw [aqF hl];exact⟨rfl,by simp [iI]⟩
 | succ k ih=>
  rcases List.eq_nil_or_concat l with rfl | ⟨l,c,rfl⟩
  ·simp at hl
  ·rw [List.concat_eq_append]at hl h ⊢;have hc:c<256:=h c (by simp);obtain⟨e,hb⟩:=ih l (by simpa using hl) fun x hx=>h x (by simp [hx])
   rw [be,Bw,show(iI l*256+c)/256=iI l by omega,show(iI l*256+c)%256=c by omega,e,Nat.pow_succ];exact⟨rfl,by omega⟩
abbrev rB:=Option (List Nat)
def take(n:Nat):rB→Option (List Nat×List Nat)
 | some b=>if n≤b.length then some (b.take n,b.drop n)else none
 | none=>none
structure p9 (α:Type) where
 enc:α→List Nat
 bz:rB→α×rB
 ok:α→Prop
 bad:(bz none).2=none
 fwd: ∀a r,ok a→bz (some (enc a++r))=(a,some r)
 bwd: ∀b a r,(∀x∈b,x<256)→bz (some b)=(a,some r)→b=enc a++r∧ok a
def raw(n:Nat):p9 (List Nat) where
 enc a:=a
 bz o:=(take n o).elim (List.replicate n 0,none) fun p=>(p.1,some p.2)
 ok a:=a.length=n
 bad:=rfl
 fwd a r h:=by
  subst h;simp [take]
 bwd b a r hb h:=by
  by_cases hn:n≤b.length
  ·simp only [take,hn,if_true,Option.elim]at h;injection h with h1 h2
   injection h2 with h2
   subst h1 h2;exact⟨(List.take_append_drop n b).symm,List.length_take_of_le hn⟩
  ·simp only [take,hn,if_false,Option.elim]at h;injection h with h1 h2
   cases h2
def num(k:Nat):p9 Nat where
 enc a:=be k a
 bz o:=(take k o).elim (0,none) fun p=>(iI p.1,some p.2)
 ok a:=a<256^k
 bad:=rfl
 fwd a r h:=by
  have e:=au k a;simp only [take,aql,e,Nat.le_add_right,if_true,Option.elim];rw [List.take_left' e,List.drop_left' e,IG k a h]
 bwd b a r hb h:=by
  by_cases hn:k≤b.length
  ·simp only [take,hn,if_true,Option.elim]at h;injection h with h1 h2
   injection h2 with h2
   subst h1 h2;obtain⟨e,cq⟩:=Cx k (b.take k) (List.length_take_of_le hn) fun x hx=>hb x (List.mem_of_mem_take hx)
   rw [e];exact⟨(List.take_append_drop k b).symm,cq⟩
  ·simp only [take,hn,if_false,Option.elim]at h;injection h with h1 h2
   cases h2
def flag:p9 Bool where
 enc a:=[if a then 1 else 0]
 bz o:=((num 1).bz o).1==1 |> fun v=>(v,if((num 1).bz o).1≤1 then((num 1).bz o).2 else none)
 ok _:=True
 bad:=rfl
 fwd a r _:=by
  have:=(num 1).fwd (if a then 1 else 0) r (by cases a<;>simp [num]);have e:(num 1).enc (if a then 1 else 0)=[if a then 1 else 0]:=by cases a<;>rfl
  rw [e]at this;simp only [this];cases a<;>rfl
 bwd b a r hb h:=by
  cases hv:(num 1).bz (some b)with
  | mk v o=>
   simp only [hv]at h;injection h with h1 h2
   by_cases hle:v≤1
   ·simp only [hle,if_true]at h2;subst h2;have:=((num 1).bwd b v r hb hv).1;subst h1;refine⟨?_,trivial⟩;rw [this];have hc:v=0∨v=1:=by omega
    rcases hc with rfl | rfl<;>rfl
   ·simp [hle]at h2
theorem x_{b l r:List Nat}(hb: ∀x∈b,x<256)(e:b=l++r): ∀x∈r,x<256:=fun x hx=>hb x (by rw [e];simp [hx])
def pair{α β:Type}(c:p9 α)(d:p9 β):p9 (α×β) where
 enc a:=c.enc a.1++d.enc a.2
 bz o:=(((c.bz o).1,(d.bz (c.bz o).2).1),(d.bz (c.bz o).2).2)
 ok a:=c.ok a.1∧d.ok a.2
 bad:=by simp only [c.bad,d.bad]
 fwd a r h:=by
  rw [List.append_assoc,c.fwd a.1 _ h.1];simp only;rw [d.fwd a.2 r h.2]
 bwd b a r hb h:=by
  cases hc:c.bz (some b)with
  | mk x o=>
   simp only [hc]at h;injection h with h1 h2
   subst h1;cases o with
   | none=>rw [d.bad]at h2;cases h2
   | some b'=>
    obtain⟨e,hx⟩:=c.bwd b x b' hb hc;cases hd:d.bz (some b')with
    | mk y o'=>
     rw [hd]at h2;simp only at h2;subst h2;obtain⟨e',hy⟩:=d.bwd b' y r (x_ hb e) hd;exact⟨by rw [e,e',List.append_assoc],hx,hy⟩
def lA{α:Type}(c:p9 α):Nat→rB→List α→List α×rB
 | 0,o,acc=>(acc,o)
 | _+1,none,acc=>(acc,none)
 | n+1,some b,acc=>lA c n (c.bz (some b)).2 (acc++[(c.bz (some b)).1])
theorem ur{α:Type}(c:p9 α)(n:Nat)(acc:List α):lA c n none acc=(acc,none):=by cases n<;>rfl
theorem Sn{α:Type}(c:p9 α)(l:List α)(acc:List α)(r:List Nat)(h: ∀a∈l,c.ok a):lA c l.length (some (l.flatMap c.enc++r)) acc=(acc++l,some r):=by
 induction l generalizing acc with
 | nil=>simp [lA]
 | cons a l ih=>
  rw [List.length_cons,List.flatMap_cons,List.append_assoc,lA,c.fwd a _ (h a (by simp))];simp only;rw [ih _ fun x hx=>h x (by simp [hx])];simp
theorem So{α:Type}(c:p9 α)(n:Nat)(b:List Nat)(acc l:List α)(r:List Nat)(hb: ∀x∈b,x<256)(h:lA c n (some b) acc=(l,some r)):
  ∃m,l=acc++m∧m.length=n∧b=m.flatMap c.enc++r∧∀a∈m,c.ok a:=by
 induction n generalizing b acc with
 | zero=>
  injection h with h1 h2
  injection h2 with h2
  exact⟨[],by simp [h1],rfl,by simp [h2],by simp⟩
 | succ n ih=>
  rw [lA]at h;cases hc:c.bz (some b)with
  | mk x o=>
   rw [hc]at h;simp only at h;cases o with
   | none=>rw [ur]at h;cases h
   | some b'=>
    obtain⟨e,hx⟩:=c.bwd b x b' hb hc;obtain⟨m,h1,h2,h3,h4⟩:=ih b' _ (x_ hb e) h;refine⟨x::m,by simp [h1],by simp [h2],by simp [e,h3],?_⟩;intro a ha;rcases List.mem_cons.1 ha with rfl | ha
    ·exact hx
    ·exact h4 a ha
def list{α:Type}(c:p9 α):p9 (List α) where
 enc l:=be 4 l.length++l.flatMap c.enc
 bz o:=lA c ((num 4).bz o).1 ((num 4).bz o).2 []
 ok l:=l.length<256^4∧∀a∈l,c.ok a
 bad:=by rw [(num 4).bad,ur]
 fwd a r h:=by
  have:=(num 4).fwd a.length (a.flatMap c.enc++r) h.1;rw [List.append_assoc];simp only [num]at this;simp only [num,this];rw [Sn c a [] r h.2,List.nil_append]
 bwd b a r hb h:=by
  cases hn:(num 4).bz (some b)with
  | mk n o=>
   rw [hn]at h;simp only at h;cases o with
   | none=>rw [ur]at h;cases h
   | some b'=>
    obtain⟨e,hx⟩:=(num 4).bwd b n b' hb hn;obtain⟨m,h1,h2,h3,h4⟩:=So c n b' [] a r (x_ hb e) h;rw [List.nil_append]at h1;subst h1;subst h2;exact⟨by rw [List.append_assoc,←h3];exact e,hx,h4⟩
def text:p9 (List Nat) where
 enc l:=be 4 l.length++l
 bz o:=(take ((num 4).bz o).1 ((num 4).bz o).2).elim ([],none) fun p=>(p.1,some p.2)
 ok l:=l.length<256^4
 bad:=by rw [(num 4).bad];rfl
 fwd a r h:=by
  have:=(num 4).fwd a.length (a++r) h;rw [List.append_assoc];simp only [num]at this;simp only [num,this];simp [take]
 bwd b a r hb h:=by
  cases hn:(num 4).bz (some b)with
  | mk n o=>
   rw [hn]at h;simp only at h;cases o with
   | none=>cases h
   | some b'=>
    obtain⟨e,hx⟩:=(num 4).bwd b n b' hb hn;by_cases hl:n≤b'.length
    ·simp only [take,hl,if_true,Option.elim]at h;injection h with h1 h2
     injection h2 with h2
     have h3:a.length=n:=by rw [←h1];exact List.length_take_of_le hl
     have e':b'=a++r:=by rw [←h1,←h2];exact(List.take_append_drop n b').symm
     subst h3;exact⟨by rw [List.append_assoc,←e'];exact e,hx⟩
    ·simp only [take,hl,if_false,Option.elim]at h;cases h
def LR{α β:Type}(c:p9 α)(f:α→β)(g:β→α)(hfg: ∀b,f (g b)=b)(hgf: ∀a,g (f a)=a):p9 β where
 enc b:=c.enc (g b)
 bz o:=(f (c.bz o).1,(c.bz o).2)
 ok b:=c.ok (g b)
 bad:=c.bad
 fwd b r h:=by simp only [c.fwd (g b) r h,hfg b]
 bwd b a r hb h:=by
  cases hc:c.bz (some b)with
  | mk x o=>
   simp only [hc]at h;injection h with h1 h2
   subst h1 h2;rw [hgf x];exact c.bwd b x r hb hc
structure jW where
 a:Nat
 d:Nat
 deriving DecidableEq,Repr
structure jD where
 dh:List Nat
 n:Nat
 msg:List Nat
 deriving DecidableEq,Repr
structure Ou where
 key:List Nat
 n:Nat
 deriving DecidableEq,Repr
structure aap where
 root:List Nat
 bind:List Nat
 own:List Nat
 fW:List Nat
 mR:Bool
 mS:Bool
 mT:Bool
 gQ:Bool
 send:Ou
 recv:Ou
 prev:Nat
 aV:List jD
 deriving DecidableEq,Repr
structure b_ where
 s:aap
 ident:List Nat
 zl:List Nat
 fG:Bool
 gS:Nat
 own:Bool
 current:Bool
 deriving DecidableEq,Repr
structure dx where
 id:Nat
 dY:List Nat
 deriving DecidableEq,Repr
structure Keys where
 dev:jW
 ident:List Nat
 signed:List Nat
 once:List dx
 deriving DecidableEq,Repr
structure fp where
 dev:jW
 l:List b_
 deriving DecidableEq,Repr
structure Tab where
 keys:Keys
 most:Nat
 bA:List fp
 deriving DecidableEq,Repr
structure Call where
 me:jW
 d_:List Nat
 dead:List (List Nat)
 state:Nat
 id:List Nat
 out:Bool
 aX:Nat
 peer:jW
 own:List Nat
 ef:List Nat
 jg:List Nat
 marks:List Nat
 hJ:Nat
 early:List jW
 fi:Nat
 cc:Nat
 since:Nat
 heard:Nat
 oa:Nat
 jh:Nat
 deriving DecidableEq,Repr
structure Room where
 id:List Nat
 aX:Nat
 out:Bool
 since:Nat
 deriving DecidableEq,Repr
structure State where
 oN:List Nat
 drawn:Nat
 table:Tab
 call:Call
 log:List Nat
 aO:List Room
 deriving DecidableEq,Repr
def gu:p9 jW:=LR (pair (num 1) (num 1)) (fun x=>⟨x.1,x.2⟩) (fun x=>(x.a,x.d)) (fun _=>rfl) (fun _=>rfl)
def dU:p9 jD:=LR (pair (raw 32) (pair (num 4) (raw 32))) (fun x=>⟨x.1,x.2.1,x.2.2⟩) (fun x=>(x.dh,x.n,x.msg)) (fun _=>rfl) (fun _=>rfl)
def Ov:p9 Ou:=LR (pair (raw 32) (num 4)) (fun x=>⟨x.1,x.2⟩) (fun x=>(x.key,x.n)) (fun _=>rfl) (fun _=>rfl)
def aaq:p9 aap:=LR (pair (raw 32) (pair (raw 32) (pair (raw 32) (pair (raw 32) (pair flag (pair flag (pair flag (pair flag (pair Ov (pair Ov (pair (num 4) (list dU))))))))))))
 (fun x=>⟨x.1,x.2.1,x.2.2.1,x.2.2.2.1,x.2.2.2.2.1,x.2.2.2.2.2.1,x.2.2.2.2.2.2.1,x.2.2.2.2.2.2.2.1,x.2.2.2.2.2.2.2.2.1,x.2.2.2.2.2.2.2.2.2.1,x.2.2.2.2.2.2.2.2.2.2.1,x.2.2.2.2.2.2.2.2.2.2.2⟩)
 (fun x=>(x.root,x.bind,x.own,x.fW,x.mR,x.mS,x.mT,x.gQ,x.send,x.recv,x.prev,x.aV)) (fun _=>rfl) (fun _=>rfl)
def bR:p9 b_:=LR (pair aaq (pair (raw 32) (pair (raw 32) (pair flag (pair (num 4) (pair flag flag))))))
 (fun x=>⟨x.1,x.2.1,x.2.2.1,x.2.2.2.1,x.2.2.2.2.1,x.2.2.2.2.2.1,x.2.2.2.2.2.2⟩) (fun x=>(x.s,x.ident,x.zl,x.fG,x.gS,x.own,x.current)) (fun _=>rfl) (fun _=>rfl)
def dG:p9 dx:=LR (pair (num 4) (raw 32)) (fun x=>⟨x.1,x.2⟩) (fun x=>(x.id,x.dY)) (fun _=>rfl) (fun _=>rfl)
def aar:p9 Keys:=LR (pair gu (pair (raw 32) (pair (raw 32) (list dG)))) (fun x=>⟨x.1,x.2.1,x.2.2.1,x.2.2.2⟩) (fun x=>(x.dev,x.ident,x.signed,x.once)) (fun _=>rfl) (fun _=>rfl)
def bO:p9 fp:=LR (pair gu (list bR)) (fun x=>⟨x.1,x.2⟩) (fun x=>(x.dev,x.l)) (fun _=>rfl) (fun _=>rfl)
def aeJ:p9 Tab:=LR (pair aar (pair (num 4) (list bO))) (fun x=>⟨x.1,x.2.1,x.2.2⟩) (fun x=>(x.keys,x.most,x.bA)) (fun _=>rfl) (fun _=>rfl)
def aas:p9 Call:=LR (pair gu (pair (raw 8) (pair (list (raw 16)) (pair (num 1) (pair (raw 16) (pair flag (pair (num 1) (pair gu (pair (raw 32) (pair (raw 32) (pair (raw 32) (pair text (pair (num 1) (pair (list gu) (pair (num 8) (pair (num 8) (pair (num 8) (pair (num 8) (pair (num 8) (num 4))))))))))))))))))))
 (fun x=>⟨x.1,x.2.1,x.2.2.1,x.2.2.2.1,x.2.2.2.2.1,x.2.2.2.2.2.1,x.2.2.2.2.2.2.1,x.2.2.2.2.2.2.2.1,x.2.2.2.2.2.2.2.2.1,x.2.2.2.2.2.2.2.2.2.1,x.2.2.2.2.2.2.2.2.2.2.1,x.2.2.2.2.2.2.2.2.2.2.2.1,x.2.2.2.2.2.2.2.2.2.2.2.2.1,x.2.2.2.2.2.2.2.2.2.2.2.2.2.1,x.2.2.2.2.2.2.2.2.2.2.2.2.2.2.1,x.2.2.2.2.2.2.2.2.2.2.2.2.2.2.2.1,x.2.2.2.2.2.2.2.2.2.2.2.2.2.2.2.2.1,x.2.2.2.2.2.2.2.2.2.2.2.2.2.2.2.2.2.1,x.2.2.2.2.2.2.2.2.2.2.2.2.2.2.2.2.2.2.1,x.2.2.2.2.2.2.2.2.2.2.2.2.2.2.2.2.2.2.2⟩)
 (fun x=>(x.me,x.d_,x.dead,x.state,x.id,x.out,x.aX,x.peer,x.own,x.ef,x.jg,x.marks,x.hJ,x.early,x.fi,x.cc,x.since,x.heard,x.oa,x.jh)) (fun _=>rfl) (fun _=>rfl)
def dQ:p9 Room:=LR (pair (raw 16) (pair (num 1) (pair flag (num 8)))) (fun x=>⟨x.1,x.2.1,x.2.2.1,x.2.2.2⟩) (fun x=>(x.id,x.aX,x.out,x.since)) (fun _=>rfl) (fun _=>rfl)
def bq:p9 State:=LR (pair (raw 32) (pair (num 8) (pair aeJ (pair aas (pair text (list dQ)))))) (fun x=>⟨x.1,x.2.1,x.2.2.1,x.2.2.2.1,x.2.2.2.2.1,x.2.2.2.2.2⟩) (fun x=>(x.oN,x.drawn,x.table,x.call,x.log,x.aO)) (fun _=>rfl) (fun _=>rfl)
end Go.Vs

namespace Go.RX.Vb
open Go Go.RX Go.Proofs Go.Vs
def aL(l:List Nat):Nat→Int:=fun j=>((l.getD j 0:Nat):Int)
abbrev aT(md:Bool)(v:Value)(l:List Nat):HP:=aB md 5 1 v l.length (aK l.length [aC .u8 1 (aL l)])
abbrev cZ(b:Nat)(out:Bool)(v:Value)(bad:Bool):HP:=ak b true [.bool out,v,.bool bad]
abbrev wP(b:Nat):Value:= .pointer (some ⟨b,0,none⟩)
theorem kQ{l:List Nat}{o:Nat}{z:Int}{c:Nat}(ho:o=l.length)(hz:z=c):aw (aL l) o z=aL (l++[c]):=by
 subst ho hz;funext j;simp only [aw,aL,aqN];split
 ·rename_i h;subst h;simp
 ·rename_i h;by_cases hj:j<l.length
  ·rw [aqs hj]
  ·rw [aq3 (by omega),aq3 (by simp;omega)]
theorem w8(n:Nat):ae .u8 (n:Int)=((n%256:Nat):Int):=by
 have:ae .u8 (n:Int)=(n:Int)%256:=rfl;omega
theorem rC(x s:Nat)(hs:s≤64):ar .shr .u64 (x:Int) (s:Int)=((x/2^s:Nat):Int):=by
 simp only [ar,aqD];rw [show min s IntKind.u64.bits=s from Nat.min_eq_left hs];rw [show((2:Int)^s)=((2^s:Nat):Int) by norm_cast];rw [Int.fdiv_eq_ediv_of_nonneg _ (Int.natCast_nonneg _)]
 norm_cast
theorem fH(x s:Nat)(hs:s≤64)(z:Int)(hz:z=s):ae .u8 (ar .shr .u64 (x:Int) z)=((x/2^s%256:Nat):Int):=by rw [hz,rC x s hs,w8]
theorem EA(b:Nat)(v:V1)(l:List Nat)(x:Nat)(hl:l.length+1≤140737488355328):aq aqQ 21 [wP b,.int .u64 (x:Int),.int .i64 1] [cZ b true v.v false,aT true v.v l]
  fun r hs=>r= .int .u64 (x:Int)∧∃v':V1,hs=[cZ b true v'.v false,aT true v'.v (l++be 1 x)]:=by
 refine Oa _ (l.length:Int) (x:Int) (aL l) v b ?_;unfold Et;dsimp only [bp,cV];intro _;refine⟨by omega,fun _=>⟨by omega,fun _ v'=>⟨rfl,v',?_⟩⟩⟩;rw [kQ (by omega) (fH x 0 (by omega) 0 rfl)];simp only [be,List.nil_append,Nat.pow_zero,Nat.div_one,aT,aql,aqm];rw [show((l.length:Int)+1).toNat=l.length+1 by omega]
theorem EB(b:Nat)(v:V1)(l:List Nat)(x:Nat)(hl:l.length+4≤140737488355328):aq aqQ 21 [wP b,.int .u64 (x:Int),.int .i64 4] [cZ b true v.v false,aT true v.v l]
  fun r hs=>r= .int .u64 (x:Int)∧∃v':V1,hs=[cZ b true v'.v false,aT true v'.v (l++be 4 x)]:=by
 refine Oe _ (l.length:Int) (x:Int) (aL l) v b ?_;unfold Ev;dsimp only [bp,cV];intro _;refine⟨by omega,fun _=>⟨by omega,fun _ _ _=>⟨by omega,fun _=>⟨by omega,fun _ _ _=>⟨by omega,fun _=>⟨by omega,fun _ _ _=>⟨by omega,fun _=>⟨by omega,fun _ v'=>⟨rfl,v',?_⟩⟩⟩⟩⟩⟩⟩⟩⟩;rw [kQ (by omega) (fH x 24 (by omega) 24 rfl),kQ (by simp only [aql,aqm];omega) (fH x 16 (by omega) 16 rfl),kQ (by simp only [aql,aqm];omega) (fH x 8 (by omega) 8 rfl),kQ (by simp only [aql,aqm];omega) (fH x 0 (by omega) 0 rfl)];simp only [be,List.nil_append,Nat.pow_zero,Nat.div_one,aT,aql,List.append_assoc,Nat.div_div_eq_div_mul,Nat.reducePow,Nat.reduceMul,List.cons_append];rw [show((l.length:Int)+1+1+1+1).toNat=l.length+4 by omega];rfl
theorem EC(b:Nat)(v:V1)(l:List Nat)(x:Nat)(hl:l.length+8≤140737488355328):aq aqQ 21 [wP b,.int .u64 (x:Int),.int .i64 8] [cZ b true v.v false,aT true v.v l]
  fun r hs=>r= .int .u64 (x:Int)∧∃v':V1,hs=[cZ b true v'.v false,aT true v'.v (l++be 8 x)]:=by
 refine Oj _ (l.length:Int) (x:Int) (aL l) v b ?_;unfold Ex;dsimp only [bp,cV];intro _;refine⟨by omega,fun _=>⟨by omega,fun _ _ _=>⟨by omega,fun _=>⟨by omega,fun _ _ _=>⟨by omega,fun _=>⟨by omega,fun _ _ _=>⟨by omega,fun _=>⟨by omega,fun _ _ _=>⟨by omega,fun _=>⟨by omega,fun _ _ _=>⟨by omega,fun _=>⟨by omega,fun _ _ _=>⟨by omega,fun _=>⟨by omega,fun _ _ _=>⟨by omega,fun _=>⟨by omega,fun _ v'=>⟨rfl,v',?_⟩⟩⟩⟩⟩⟩⟩⟩⟩⟩⟩⟩⟩⟩⟩⟩⟩;rw [kQ (by omega) (fH x 56 (by omega) 56 rfl),kQ (by simp only [aql,aqm];omega) (fH x 48 (by omega) 48 rfl),kQ (by simp only [aql,aqm];omega) (fH x 40 (by omega) 40 rfl),kQ (by simp only [aql,aqm];omega) (fH x 32 (by omega) 32 rfl),kQ (by simp only [aql,aqm];omega) (fH x 24 (by omega) 24 rfl),kQ (by simp only [aql,aqm];omega) (fH x 16 (by omega) 16 rfl),kQ (by simp only [aql,aqm];omega) (fH x 8 (by omega) 8 rfl),kQ (by simp only [aql,aqm];omega) (fH x 0 (by omega) 0 rfl)];simp only [be,List.nil_append,Nat.pow_zero,Nat.div_one,aT,aql,List.append_assoc,Nat.div_div_eq_div_mul,Nat.reducePow,Nat.reduceMul,List.cons_append];rw [show((l.length:Int)+1+1+1+1+1+1+1+1).toNat=l.length+8 by omega];rfl
open Go Go.RX Go.Proofs Go.Vs
def bZ(q:Bool)(l:List Nat):rB:=if q then none else some l
structure fX (l:List Nat):Prop where
 b: ∀x∈l,x<256
 n:l.length≤140737488355328
theorem fX.drop{l:List Nat}(h:fX l)(k:Nat):fX (l.drop k):=⟨fun x hx=>h.b x (List.mem_of_mem_drop hx),by rw [List.length_drop];exact Nat.le_trans (Nat.sub_le _ _) h.n⟩
theorem fX.take{l:List Nat}(h:fX l)(k:Nat):fX (l.take k):=⟨fun x hx=>h.b x (List.mem_of_mem_take hx),by rw [List.length_take];exact Nat.le_trans (Nat.min_le_right _ _) h.n⟩
theorem iF{l:List Nat}{j:Nat}(h:j<l.length):aL l j=((l[j]:Nat):Int):=by
 simp [aL,aqN,List.getElem?_eq_getElem h]
theorem uu(l:List Nat):aK l.length [aC .u8 1 (aL l)]=aj .u8 l.length (aL l):=by
 unfold aK aj aC;generalize aL l=f;generalize l.length=n
 induction n with
 | zero=>rfl
 | succ n ih=>rw [List.range_succ,List.flatMap_append,List.map_append,ih];simp [aj]
theorem ED(l:List Nat)(lo n:Nat)(h:lo+n≤l.length):((aK l.length [aC .u8 1 (aL l)]).drop (lo*1)).take (n*1)=aK ((l.drop lo).take n).length [aC .u8 1 (aL ((l.drop lo).take n))]:=by
 rw [uu,uu,Nat.mul_one,Nat.mul_one];refine List.ext_getElem? fun j=>?_
 have hl:((l.drop lo).take n).length=n:=by simp;omega
 by_cases hj:j<n
 ·rw [List.getElem?_take_of_lt hj,List.getElem?_drop];simp only [aj,List.getElem?_map,hl,List.getElem?_range hj,List.getElem?_range (show lo+j<l.length by omega),Option.map_some,aL,aqN];rw [List.getElem?_take_of_lt hj,List.getElem?_drop]
 ·rw [aq3 (by simp [aj];omega),aq3 (by simp [aj,hl];omega)]
theorem bJ.view{v:Value}{l:List Nat}{lo hi:Nat}{mx:Option Nat}{m:List Nat}(h1:lo≤hi)(h2:hi≤l.length)(h3: ∀m,mx=some m→hi≤m)(hm:m=(l.drop lo).take (hi - lo))(a:List HP)(i:Nat)(dy:a[i]? =some (aT false v l)):bJ a (a.set i (aT false (aE 1 v lo hi mx) m)):=by
 refine bJ.put i _ _ dy (fun h=>by cases h) fun w S hp=>?_
 obtain⟨S',hS,hk⟩:=Ed hp h1 h2 h3;rw [ED l lo (hi - lo) (by omega),←hm]at hS;have hl:m.length=hi - lo:=by subst hm;simp;omega
 exact⟨S',hk,by rw [←hl]at hS;exact hS⟩
theorem Wl(n:Nat)(h:n<256):ae .u64 (n:Int)=(n:Int):=by
 have:ae .u64 (n:Int)=(n:Int)%18446744073709551616:=rfl;omega
theorem ofI(w n:Nat):(BitVec.ofInt w (n:Int)).toNat=n%2^w:=by simp
theorem Uf(n:Nat):ae .u64 (n:Int)=((n%2^64:Nat):Int):=by
 have:ae .u64 (n:Int)=(n:Int)%18446744073709551616:=rfl;omega
theorem aat{a c:Nat}(ha:a<2^64)(hc:c<2^64):ar .cz .u64 (a:Int) (c:Int)=((a|||c:Nat):Int):=by
 show ae .u64 ((BitVec.ofInt 64 (a:Int)|||BitVec.ofInt 64 (c:Int)).toNat:Int)=_;rw [Uf,BitVec.toNat_or,ofI,ofI,Nat.mod_eq_of_lt ha,Nat.mod_eq_of_lt hc,Nat.mod_eq_of_lt (Nat.or_lt_two_pow ha hc)]
theorem aau{m:Nat}(hm:m*256<2^64):ar .shl .u64 (m:Int) 8=((m*256:Nat):Int):=by
 have:ar .shl .u64 (m:Int) 8=((m:Int)*256)%18446744073709551616:=rfl;omega
theorem aav{m c:Nat}(hc:c<256):m*256|||c=m*256+c:=by
 rw [Nat.mul_comm m,show(256:Nat)=2^8 from rfl,←Nat.two_pow_add_eq_or_of_lt (by omega)]
theorem kD{m c:Nat}(hm:m*256+c<2^64)(hc:c<256):ar .cz .u64 (ar .shl .u64 (m:Int) 8) (ae .u64 (c:Int))=((m*256+c:Nat):Int):=by
 have h1:m*256<2^64:=Nat.lt_of_le_of_lt (Nat.le_add_right _ _) hm;have h2:c<2^64:=Nat.lt_trans hc (by decide);rw [Wl c hc,aau h1,aat h1 h2,aav hc]
theorem EE{c:Nat}(hc:c<256):ar .cz .u64 0 (ae .u64 (c:Int))=((c:Nat):Int):=by
 have h0:0*256+c<2^64:=by
  rw [Nat.zero_mul,Nat.zero_add];exact Nat.lt_trans hc (by decide)
 have:=kD h0 hc;have e:ar .shl .u64 ((0:Nat):Int) 8=0:=rfl;rw [e,Nat.zero_mul,Nat.zero_add]at this;exact this
theorem EF(b:Nat)(v:V1)(q:Bool)(l:List Nat)(hb:fX l)(x:Int):aq aqQ 21 [wP b,.int .u64 x,.int .i64 1] [cZ b false v.v q,aT false v.v l]
  fun r hs=>r= .int .u64 (((num 1).bz (bZ q l)).1:Int)∧∃(v':V1) (q':Bool) (l':List Nat),hs=[cZ b false v'.v q',aT false v'.v l']∧bZ q' l'=((num 1).bz (bZ q l)).2∧fX l':=by
 cases q with
 | true=>
  refine(aq.frame (Od (fun r hs=>r= .int .u64 0∧hs=[cZ b false v.v true]) 0 x (fun _=>0) v b ⟨rfl,rfl⟩) [aT false v.v l]).post ?_;rintro r hs ⟨kT,rfl,rfl,rfl⟩;exact⟨_,bJ.refl _,rfl,v,true,l,rfl,rfl,hb⟩
 | false=>
  refine aq.post (Ob (fun r hs=>if l.length<1 then r= .int .u64 0∧hs=[cZ b false v.v true,aT false v.v l]else r= .int .u64 (iI (l.take 1):Int)∧hs=[cZ b false (aE 1 v.v 1 l.length none) false,aT false v.v l]) (l.length:Int) x (aL l) v b ?_) ?_
  ·unfold Eu;dsimp only [bf,sZ];refine⟨by omega,fun _=>⟨fun h=>?_,fun h=>?_⟩⟩
   ·try dsimp only
    rw [if_pos (by omega)];exact⟨rfl,rfl⟩
   ·have hl:1≤l.length:=by omega
    refine⟨by omega,fun _=>⟨by omega,fun _=>?_⟩⟩
    try dsimp only
    rw [if_neg (by omega)];simp only [aqD];refine⟨?_,trivial⟩;obtain⟨c0,r,rfl⟩: ∃c0 r,l=c0::r:=by
     match l,hl with
     | c0::r,_=>exact⟨c0,r,rfl⟩
    have h0:c0<256:=hb.b c0 (by simp);simp only [aL,ah,iI,List.take_succ_cons,List.take_zero,List.foldl_cons,List.foldl_nil,Nat.zero_mul,Nat.zero_add];rw [EE h0]
  ·intro r hs h;by_cases hl:l.length<1
   ·rw [if_pos hl]at h;obtain⟨rfl,rfl⟩:=h;have e:(num 1).bz (bZ false l)=(0,none):=by simp only [num,bZ,take,Bool.false_eq_true,if_false,show¬1≤l.length by omega];rfl
    rw [e];exact⟨_,bJ.refl _,rfl,v,true,l,rfl,rfl,hb⟩
   ·rw [if_neg hl]at h;obtain⟨rfl,rfl⟩:=h;have e:(num 1).bz (bZ false l)=(iI (l.take 1),some (l.drop 1)):=by simp only [num,bZ,take,Bool.false_eq_true,if_false,show 1≤l.length by omega,if_true];rfl
    rw [e];refine⟨_,bJ.view (lo:=1) (hi:=l.length) (mx:=none) (m:=l.drop 1) (by omega) (Nat.le_refl _) (fun m h=>by cases h) (by rw [List.take_of_length_le (by simp)]) _ 1 rfl,rfl,⟨_,bT 1 v.v 1 l.length none⟩,false,l.drop 1,rfl,rfl,hb.drop _⟩
theorem EG(b:Nat)(v:V1)(q:Bool)(l:List Nat)(hb:fX l)(x:Int):aq aqQ 21 [wP b,.int .u64 x,.int .i64 4] [cZ b false v.v q,aT false v.v l]
  fun r hs=>r= .int .u64 (((num 4).bz (bZ q l)).1:Int)∧∃(v':V1) (q':Bool) (l':List Nat),hs=[cZ b false v'.v q',aT false v'.v l']∧bZ q' l'=((num 4).bz (bZ q l)).2∧fX l':=by
 cases q with
 | true=>
  refine(aq.frame (Oi (fun r hs=>r= .int .u64 0∧hs=[cZ b false v.v true]) 0 x (fun _=>0) v b ⟨rfl,rfl⟩) [aT false v.v l]).post ?_;rintro r hs ⟨kT,rfl,rfl,rfl⟩;exact⟨_,bJ.refl _,rfl,v,true,l,rfl,rfl,hb⟩
 | false=>
  refine aq.post (Og (fun r hs=>if l.length<4 then r= .int .u64 0∧hs=[cZ b false v.v true,aT false v.v l]else r= .int .u64 (iI (l.take 4):Int)∧hs=[cZ b false (aE 1 v.v 4 l.length none) false,aT false v.v l]) (l.length:Int) x (aL l) v b ?_) ?_
  ·unfold Ew;dsimp only [bf,sZ];refine⟨by omega,fun _=>⟨fun h=>?_,fun h=>?_⟩⟩
   ·try dsimp only
    rw [if_pos (by omega)];exact⟨rfl,rfl⟩
   ·have hl:4≤l.length:=by omega
    iterate 5 refine⟨by omega,fun _=>?_⟩
    try dsimp only
    rw [if_neg (by omega)];simp only [aqD];refine⟨?_,trivial⟩;obtain⟨c0,c1,c2,c3,r,rfl⟩: ∃c0 c1 c2 c3 r,l=c0::c1::c2::c3::r:=by
     match l,hl with
     | c0::c1::c2::c3::r,_=>exact⟨c0,c1,c2,c3,r,rfl⟩
    have h0:c0<256:=hb.b c0 (by simp);have h1:c1<256:=hb.b c1 (by simp);have h2:c2<256:=hb.b c2 (by simp);have h3:c3<256:=hb.b c3 (by simp);simp only [aL,ah,List.getD_cons_succ,iI,List.take_succ_cons,List.take_zero,List.foldl_cons,List.foldl_nil,Nat.zero_mul,Nat.zero_add];rw [EE h0,kD (by omega) h1,kD (by omega) h2,kD (by omega) h3]
  ·intro r hs h;by_cases hl:l.length<4
   ·rw [if_pos hl]at h;obtain⟨rfl,rfl⟩:=h;have e:(num 4).bz (bZ false l)=(0,none):=by simp only [num,bZ,take,Bool.false_eq_true,if_false,show¬4≤l.length by omega];rfl
    rw [e];exact⟨_,bJ.refl _,rfl,v,true,l,rfl,rfl,hb⟩
   ·rw [if_neg hl]at h;obtain⟨rfl,rfl⟩:=h;have e:(num 4).bz (bZ false l)=(iI (l.take 4),some (l.drop 4)):=by simp only [num,bZ,take,Bool.false_eq_true,if_false,show 4≤l.length by omega,if_true];rfl
    rw [e];refine⟨_,bJ.view (lo:=4) (hi:=l.length) (mx:=none) (m:=l.drop 4) (by omega) (Nat.le_refl _) (fun m h=>by cases h) (by rw [List.take_of_length_le (by simp)]) _ 1 rfl,rfl,⟨_,bT 1 v.v 4 l.length none⟩,false,l.drop 4,rfl,rfl,hb.drop _⟩
theorem EH(b:Nat)(v:V1)(q:Bool)(l:List Nat)(hb:fX l)(x:Int):aq aqQ 21 [wP b,.int .u64 x,.int .i64 8] [cZ b false v.v q,aT false v.v l]
  fun r hs=>r= .int .u64 (((num 8).bz (bZ q l)).1:Int)∧∃(v':V1) (q':Bool) (l':List Nat),hs=[cZ b false v'.v q',aT false v'.v l']∧bZ q' l'=((num 8).bz (bZ q l)).2∧fX l':=by
 cases q with
 | true=>
  refine(aq.frame (On (fun r hs=>r= .int .u64 0∧hs=[cZ b false v.v true]) 0 x (fun _=>0) v b ⟨rfl,rfl⟩) [aT false v.v l]).post ?_;rintro r hs ⟨kT,rfl,rfl,rfl⟩;exact⟨_,bJ.refl _,rfl,v,true,l,rfl,rfl,hb⟩
 | false=>
  refine aq.post (Ol (fun r hs=>if l.length<8 then r= .int .u64 0∧hs=[cZ b false v.v true,aT false v.v l]else r= .int .u64 (iI (l.take 8):Int)∧hs=[cZ b false (aE 1 v.v 8 l.length none) false,aT false v.v l]) (l.length:Int) x (aL l) v b ?_) ?_
  ·unfold Ey;dsimp only [bf,sZ];refine⟨by omega,fun _=>⟨fun h=>?_,fun h=>?_⟩⟩
   ·try dsimp only
    rw [if_pos (by omega)];exact⟨rfl,rfl⟩
   ·have hl:8≤l.length:=by omega
    iterate 9 refine⟨by omega,fun _=>?_⟩
    try dsimp only
    rw [if_neg (by omega)];simp only [aqD];refine⟨?_,trivial⟩;obtain⟨c0,c1,c2,c3,c4,c5,c6,c7,r,rfl⟩: ∃c0 c1 c2 c3 c4 c5 c6 c7 r,l=c0::c1::c2::c3::c4::c5::c6::c7::r:=by
     match l,hl with
     | c0::c1::c2::c3::c4::c5::c6::c7::r,_=>exact⟨c0,c1,c2,c3,c4,c5,c6,c7,r,rfl⟩
    have h0:c0<256:=hb.b c0 (by simp);have h1:c1<256:=hb.b c1 (by simp);have h2:c2<256:=hb.b c2 (by simp);have h3:c3<256:=hb.b c3 (by simp);have h4:c4<256:=hb.b c4 (by simp);have h5:c5<256:=hb.b c5 (by simp);have h6:c6<256:=hb.b c6 (by simp);have h7:c7<256:=hb.b c7 (by simp);simp only [aL,ah,List.getD_cons_succ,iI,List.take_succ_cons,List.take_zero,List.foldl_cons,List.foldl_nil,Nat.zero_mul,Nat.zero_add];rw [EE h0,kD (by omega) h1,kD (by omega) h2,kD (by omega) h3,kD (by omega) h4,kD (by omega) h5,kD (by omega) h6,kD (by omega) h7]
  ·intro r hs h;by_cases hl:l.length<8
   ·rw [if_pos hl]at h;obtain⟨rfl,rfl⟩:=h;have e:(num 8).bz (bZ false l)=(0,none):=by simp only [num,bZ,take,Bool.false_eq_true,if_false,show¬8≤l.length by omega];rfl
    rw [e];exact⟨_,bJ.refl _,rfl,v,true,l,rfl,rfl,hb⟩
   ·rw [if_neg hl]at h;obtain⟨rfl,rfl⟩:=h;have e:(num 8).bz (bZ false l)=(iI (l.take 8),some (l.drop 8)):=by simp only [num,bZ,take,Bool.false_eq_true,if_false,show 8≤l.length by omega,if_true];rfl
    rw [e];refine⟨_,bJ.view (lo:=8) (hi:=l.length) (mx:=none) (m:=l.drop 8) (by omega) (Nat.le_refl _) (fun m h=>by cases h) (by rw [List.take_of_length_le (by simp)]) _ 1 rfl,rfl,⟨_,bT 1 v.v 8 l.length none⟩,false,l.drop 8,rfl,rfl,hb.drop _⟩
end Go.RX.Vb

namespace Go.RX
theorem bJ.vI(t s:Nat):bJ [] [aB true t s (.slice none 0 0) 0 []]:=by
 intro w Fs ⟨S,hS⟩;refine⟨fun i=>match i with | 0=>fun _=>False | i+1=>S i,⟨?_,?_⟩⟩
 ·intro i x hx
  match i,hx with
  | 0,hx=>
   simp at hx;subst hx;exact⟨⟨by simp only [if_true];exact mB w t s,fun k=>⟨False.elim,fun h=>by simp [Value.ownBlock]at h⟩⟩,fun k h=>h.elim⟩
  | i+1,hx=>exact hS.at_ i x (by simpa using hx)
 ·intro i j x y fg hx hy hw k
  match i,j,fg,hx,hy with
  | 0,_,_,_,_=>exact fun h=>h.elim
  | i+1,0,_,_,_=>exact fun _ h=>h
  | i+1,j+1,fg,hx,hy=>exact hS.apart i j x y (by omega) (by simpa using hx) (by simpa using hy) hw k
theorem bJ.see{a:List HP}(i:Nat){t s n:Nat}{v:Value}{cs:List Value}(h:a[i]? =some (aB true t s v n cs)):bJ a (a.set i (aB false t s v n cs)):=
 bJ.put i _ _ h (fun h=>by cases h) fun _ _ hp=>⟨_,fun _ hk=>hk.1,y9 hp⟩
theorem bJ.front{A a b:List HP}(h:bJ a b):bJ (A++a) (A++b):=by
 refine bJ.trans (bJ.perm List.perm_append_comm) (bJ.trans (bJ.frame h A) (bJ.perm List.perm_append_comm))
theorem bJ.dup{h:HP}(hw:h.wr=false)(r:List HP):bJ (h::r) (h::h::r):=fun _ _ ho=>bG.dup hw ho
end Go.RX
namespace Go.RX.Vb
open Go Go.RX Go.Proofs Go.Vs
def lQ(n:Nat)(o:rB):List Nat×rB:=(take n o).elim ([],none) fun p=>(p.1,some p.2)
theorem wX(b:Nat)(v:V1)(q:Bool)(l:List Nat)(hb:fX l)(n:Nat):aq aqQ 45 [wP b,.int .i64 (n:Int)] [cZ b false v.v q,aT false v.v l]
  fun r hs=> ∃(o v':V1) (q':Bool) (l' m:List Nat),r=o.v∧hs=[cZ b false v'.v q',aT false v'.v l',aT false o.v m]∧(m,bZ q' l')=lQ n (bZ q l)∧fX l'∧fX m:=by
 have Bx:fX []:=⟨fun x hx=>(nomatch hx),by simp⟩;have nl: ∀{A:List HP},bJ A (A++[aT false (.slice none 0 0) []]):=fun {A}=>by
  have:=bJ.front (A:=A) (bJ.trans (bJ.vI 5 1) (bJ.see 0 rfl))
  rwa [List.append_nil]at this
 cases q with
 | true=>
  refine(aq.frame (Ot (fun r hs=>r= .slice none 0 0∧hs=[cZ b false v.v true]) 0 (n:Int) (fun _=>0) v b ⟨rfl,rfl⟩) [aT false v.v l]).post ?_;rintro r hs ⟨kT,rfl,rfl,rfl⟩;exact⟨_,nl,⟨.slice none 0 0,rfl⟩,v,true,l,[],rfl,rfl,rfl,hb,Bx⟩
 | false=>
  refine aq.post (Oo (fun r hs=>if l.length<n then r= .slice none 0 0∧hs=[cZ b false v.v true,aT false v.v l]else r=aE 1 v.v 0 n (some n)∧hs=[cZ b false (aE 1 v.v n l.length none) false,aT false v.v l]) (l.length:Int) (n:Int) (aL l) v b ?_) ?_
  ·unfold Ez;refine⟨by omega,fun _=>⟨fun h=>?_,fun h=>?_⟩⟩
   ·dsimp only;rw [if_pos (by omega)];exact⟨rfl,rfl⟩
   ·refine⟨by omega,fun _=>⟨by omega,fun _=>?_⟩⟩;dsimp only;rw [if_neg (by omega)];exact⟨rfl,rfl⟩
  ·intro r hs h;by_cases hl:l.length<n
   ·rw [if_pos hl]at h;obtain⟨rfl,rfl⟩:=h;have e:lQ n (bZ false l)=([],none):=by simp only [lQ,bZ,take,Bool.false_eq_true,if_false,show¬n≤l.length by omega];rfl
    rw [e];exact⟨_,nl,⟨.slice none 0 0,rfl⟩,v,true,l,[],rfl,rfl,rfl,hb,Bx⟩
   ·rw [if_neg hl]at h;obtain⟨rfl,rfl⟩:=h;have e:lQ n (bZ false l)=(l.take n,some (l.drop n)):=by simp only [lQ,bZ,take,Bool.false_eq_true,if_false,show n≤l.length by omega,if_true];rfl
    rw [e];refine⟨[cZ b false (aE 1 v.v n l.length none) false,aT false (aE 1 v.v n l.length none) (l.drop n),aT false (aE 1 v.v 0 n (some n)) (l.take n)],?_,⟨_,bT 1 v.v 0 n (some n)⟩,⟨_,bT 1 v.v n l.length none⟩,false,l.drop n,l.take n,rfl,rfl,rfl,hb.drop _,hb.take _⟩;refine bJ.trans (bJ.front (A:=[cZ b false (aE 1 v.v n l.length none) false]) (bJ.dup rfl [])) ?_;refine bJ.trans (bJ.view (lo:=n) (hi:=l.length) (mx:=none) (m:=l.drop n) (by omega) (Nat.le_refl _) (fun m h=>by cases h) (by rw [List.take_of_length_le (by simp)]) _ 1 rfl) ?_;exact bJ.view (lo:=0) (hi:=n) (mx:=some n) (m:=l.take n) (by omega) (by omega) (fun m h=>by cases h;omega) (by simp) _ 2 rfl
end Go.RX.Vb
