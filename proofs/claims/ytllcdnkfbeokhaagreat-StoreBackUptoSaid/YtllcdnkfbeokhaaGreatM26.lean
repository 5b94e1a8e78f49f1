/- The store's walker. -/
import Derived.Test.YtllcdnkfbeokhaaGreatM25
open Go.IntKind renaming wrap → ae
open Go.Proofs.Tryz renaming prog → auN
open Int renaming toNat → ag, toNat_natCast → auD
open List renaming eq_nil_of_length_eq_zero → auH, getD_cons_zero → ah, getD_eq_getElem?_getD → auO, getElem?_append_left → auu, getElem?_eq_getElem → auU, getElem?_eq_none → au0, length_append → aum, length_singleton → aun, mem_append → auE, mem_singleton → auz
namespace Go.RX.Vb
open Go.RX Go.Proofs
set_option maxRecDepth 100000
def Gs(al:PT)(x0 x1:Int)(A0:Nat→Int)(_:V1)(b0:Nat):Prop:=
 ∀_:Nat,ax (0≤x0) (
 lp ((x0+1)*1) (
 ∀v1:V1,al (.int .u64 x1) [dt b0 v1,bq v1 (x0+1) (aw A0 (ag x0) (ae .u8 (ar .shr .u64 x1 0)))]))
theorem QF(al:PT)(x0 x1:Int)(A0:Nat→Int)(v0:V1)(b0:Nat)(h:Gs al x0 x1 A0 v0 b0):aq auN 21 [pp b0,.int .u64 x1,.int .i64 1] [dt b0 v0,bq v0 x0 A0] al:=
 s8 (C:=cx) (Vb.D5 1) Vb.Qs Vb.AA ⟨[x0,x1],[A0],[],[b0],[v0],[],[],[]⟩ 2 Tryz.func21 (by kernel_rfl) h
def Gt(al:PT)(x0 _:Int)(A0:Nat→Int)(v0:V1)(b0:Nat):Prop:=
 ax (0≤x0) (
 bt (x0<1) (
 al (.int .u64 0) [uw b0 v0,bh v0 x0 A0]) (
 ax (1≤x0) (
 ax (0<x0) (
 al (.int .u64 (ar .cK .u64 0 (ae .u64 (A0 0)))) [ak b0 true ([.bool false,(aF 1 v0.v 1 (ag x0) none),.bool false]),bh v0 x0 A0]))))
theorem QG(al:PT)(x0 x1:Int)(A0:Nat→Int)(v0:V1)(b0:Nat)(h:Gt al x0 x1 A0 v0 b0):aq auN 21 [pp b0,.int .u64 x1,.int .i64 1] [Gr b0 v0,bh v0 x0 A0] al:=
 s8 (C:=cx) (Vb.D5 1) Vb.UY Vb.AA ⟨[x0,x1],[A0],[],[b0],[v0],[],[],[]⟩ 2 Tryz.func21 (by kernel_rfl) h
def QH(al:PT)(_ _:Int)(_:Nat→Int)(v0:V1)(b0:Nat):Prop:=
 al (.int .u64 0) [uw b0 v0]
theorem QI(al:PT)(x0 x1:Int)(A0:Nat→Int)(v0:V1)(b0:Nat)(h:QH al x0 x1 A0 v0 b0):aq auN 21 [pp b0,.int .u64 x1,.int .i64 1] [uw b0 v0] al:=
 yM (C:=cx) (Vb.D5 1) Vb.KM Vb.AA ⟨[x0,x1],[A0],[],[b0],[v0],[],[],[]⟩ Tryz.func21 (by kernel_rfl) h
def Gu(al:PT)(x0 x1:Int)(A0:Nat→Int)(_:V1)(b0:Nat):Prop:=
 ∀_:Nat,ax (0≤x0) (
 lp ((x0+1)*1) (
 ∀(_:V1) (_:Nat),ax (0≤(x0+1)) (
 ax ((((x0+1)+1)*1)≤140737488355328) (
 ∀(_:V1) (_:Nat),ax (0≤((x0+1)+1)) (
 ax (((((x0+1)+1)+1)*1)≤140737488355328) (
 ∀(_:V1) (_:Nat),ax (0≤(((x0+1)+1)+1)) (
 ax ((((((x0+1)+1)+1)+1)*1)≤140737488355328) (
 ∀v4:V1,al (.int .u64 x1) [dt b0 v4,bq v4 ((((x0+1)+1)+1)+1) (aw (aw (aw (aw A0 (ag x0) (ae .u8 (ar .shr .u64 x1 24))) (ag (x0+1)) (ae .u8 (ar .shr .u64 x1 16))) (ag ((x0+1)+1)) (ae .u8 (ar .shr .u64 x1 8))) (ag (((x0+1)+1)+1)) (ae .u8 (ar .shr .u64 x1 0)))]))))))))
theorem QJ(al:PT)(x0 x1:Int)(A0:Nat→Int)(v0:V1)(b0:Nat)(h:Gu al x0 x1 A0 v0 b0):aq auN 21 [pp b0,.int .u64 x1,.int .i64 4] [dt b0 v0,bq v0 x0 A0] al:=
 s8 (C:=cx) (Vb.D5 4) Vb.Qs Vb.AA ⟨[x0,x1],[A0],[],[b0],[v0],[],[],[]⟩ 2 Tryz.func21 (by kernel_rfl) h
def Gv(al:PT)(x0 _:Int)(A0:Nat→Int)(v0:V1)(b0:Nat):Prop:=
 ax (0≤x0) (
 bt (x0<4) (
 al (.int .u64 0) [uw b0 v0,bh v0 x0 A0]) (
 ax (4≤x0) (
 ax (0<x0) (
 ax (1<x0) (
 ax (2<x0) (
 ax (3<x0) (
 al (.int .u64 (ar .cK .u64 (ar .shl .u64 (ar .cK .u64 (ar .shl .u64 (ar .cK .u64 (ar .shl .u64 (ar .cK .u64 0 (ae .u64 (A0 0))) 8) (ae .u64 (A0 1))) 8) (ae .u64 (A0 2))) 8) (ae .u64 (A0 3)))) [ak b0 true ([.bool false,(aF 1 v0.v 4 (ag x0) none),.bool false]),bh v0 x0 A0])))))))
theorem QL(al:PT)(x0 x1:Int)(A0:Nat→Int)(v0:V1)(b0:Nat)(h:Gv al x0 x1 A0 v0 b0):aq auN 21 [pp b0,.int .u64 x1,.int .i64 4] [Gr b0 v0,bh v0 x0 A0] al:=
 s8 (C:=cx) (Vb.D5 4) Vb.UY Vb.AA ⟨[x0,x1],[A0],[],[b0],[v0],[],[],[]⟩ 2 Tryz.func21 (by kernel_rfl) h
def QM(al:PT)(_ _:Int)(_:Nat→Int)(v0:V1)(b0:Nat):Prop:=
 al (.int .u64 0) [uw b0 v0]
theorem QN(al:PT)(x0 x1:Int)(A0:Nat→Int)(v0:V1)(b0:Nat)(h:QM al x0 x1 A0 v0 b0):aq auN 21 [pp b0,.int .u64 x1,.int .i64 4] [uw b0 v0] al:=
 yM (C:=cx) (Vb.D5 4) Vb.KM Vb.AA ⟨[x0,x1],[A0],[],[b0],[v0],[],[],[]⟩ Tryz.func21 (by kernel_rfl) h
def Gw(al:PT)(x0 x1:Int)(A0:Nat→Int)(_:V1)(b0:Nat):Prop:=
 ∀_:Nat,ax (0≤x0) (
 lp ((x0+1)*1) (
 ∀(_:V1) (_:Nat),ax (0≤(x0+1)) (
 ax ((((x0+1)+1)*1)≤140737488355328) (
 ∀(_:V1) (_:Nat),ax (0≤((x0+1)+1)) (
 ax (((((x0+1)+1)+1)*1)≤140737488355328) (
 ∀(_:V1) (_:Nat),ax (0≤(((x0+1)+1)+1)) (
 ax ((((((x0+1)+1)+1)+1)*1)≤140737488355328) (
 ∀(_:V1) (_:Nat),ax (0≤((((x0+1)+1)+1)+1)) (
 ax (((((((x0+1)+1)+1)+1)+1)*1)≤140737488355328) (
 ∀(_:V1) (_:Nat),ax (0≤(((((x0+1)+1)+1)+1)+1)) (
 ax ((((((((x0+1)+1)+1)+1)+1)+1)*1)≤140737488355328) (
 ∀(_:V1) (_:Nat),ax (0≤((((((x0+1)+1)+1)+1)+1)+1)) (
 ax (((((((((x0+1)+1)+1)+1)+1)+1)+1)*1)≤140737488355328) (
 ∀(_:V1) (_:Nat),ax (0≤(((((((x0+1)+1)+1)+1)+1)+1)+1)) (
 ax ((((((((((x0+1)+1)+1)+1)+1)+1)+1)+1)*1)≤140737488355328) (
 ∀v8:V1,al (.int .u64 x1) [dt b0 v8,bq v8 ((((((((x0+1)+1)+1)+1)+1)+1)+1)+1) (aw (aw (aw (aw (aw (aw (aw (aw A0 (ag x0) (ae .u8 (ar .shr .u64 x1 56))) (ag (x0+1)) (ae .u8 (ar .shr .u64 x1 48))) (ag ((x0+1)+1)) (ae .u8 (ar .shr .u64 x1 40))) (ag (((x0+1)+1)+1)) (ae .u8 (ar .shr .u64 x1 32))) (ag ((((x0+1)+1)+1)+1)) (ae .u8 (ar .shr .u64 x1 24))) (ag (((((x0+1)+1)+1)+1)+1)) (ae .u8 (ar .shr .u64 x1 16))) (ag ((((((x0+1)+1)+1)+1)+1)+1)) (ae .u8 (ar .shr .u64 x1 8))) (ag (((((((x0+1)+1)+1)+1)+1)+1)+1)) (ae .u8 (ar .shr .u64 x1 0)))]))))))))))))))))
theorem QO(al:PT)(x0 x1:Int)(A0:Nat→Int)(v0:V1)(b0:Nat)(h:Gw al x0 x1 A0 v0 b0):aq auN 21 [pp b0,.int .u64 x1,.int .i64 8] [dt b0 v0,bq v0 x0 A0] al:=
 s8 (C:=cx) (Vb.D5 8) Vb.Qs Vb.AA ⟨[x0,x1],[A0],[],[b0],[v0],[],[],[]⟩ 2 Tryz.func21 (by kernel_rfl) h
def Gx(al:PT)(x0 _:Int)(A0:Nat→Int)(v0:V1)(b0:Nat):Prop:=
 ax (0≤x0) (
 bt (x0<8) (
 al (.int .u64 0) [uw b0 v0,bh v0 x0 A0]) (
 ax (8≤x0) (
 ax (0<x0) (
 ax (1<x0) (
 ax (2<x0) (
 ax (3<x0) (
 ax (4<x0) (
 ax (5<x0) (
 ax (6<x0) (
 ax (7<x0) (
 al (.int .u64 (ar .cK .u64 (ar .shl .u64 (ar .cK .u64 (ar .shl .u64 (ar .cK .u64 (ar .shl .u64 (ar .cK .u64 (ar .shl .u64 (ar .cK .u64 (ar .shl .u64 (ar .cK .u64 (ar .shl .u64 (ar .cK .u64 (ar .shl .u64 (ar .cK .u64 0 (ae .u64 (A0 0))) 8) (ae .u64 (A0 1))) 8) (ae .u64 (A0 2))) 8) (ae .u64 (A0 3))) 8) (ae .u64 (A0 4))) 8) (ae .u64 (A0 5))) 8) (ae .u64 (A0 6))) 8) (ae .u64 (A0 7)))) [ak b0 true ([.bool false,(aF 1 v0.v 8 (ag x0) none),.bool false]),bh v0 x0 A0])))))))))))
theorem QP(al:PT)(x0 x1:Int)(A0:Nat→Int)(v0:V1)(b0:Nat)(h:Gx al x0 x1 A0 v0 b0):aq auN 21 [pp b0,.int .u64 x1,.int .i64 8] [Gr b0 v0,bh v0 x0 A0] al:=
 s8 (C:=cx) (Vb.D5 8) Vb.UY Vb.AA ⟨[x0,x1],[A0],[],[b0],[v0],[],[],[]⟩ 2 Tryz.func21 (by kernel_rfl) h
def QQ(al:PT)(_ _:Int)(_:Nat→Int)(v0:V1)(b0:Nat):Prop:=
 al (.int .u64 0) [uw b0 v0]
theorem QR(al:PT)(x0 x1:Int)(A0:Nat→Int)(v0:V1)(b0:Nat)(h:QQ al x0 x1 A0 v0 b0):aq auN 21 [pp b0,.int .u64 x1,.int .i64 8] [uw b0 v0] al:=
 yM (C:=cx) (Vb.D5 8) Vb.KM Vb.AA ⟨[x0,x1],[A0],[],[b0],[v0],[],[],[]⟩ Tryz.func21 (by kernel_rfl) h
def Gy(al:PT)(x0 x1:Int)(A0:Nat→Int)(v0:V1)(b0:Nat):Prop:=
 ax ((x1<0)∨(0≤x0)) (
 bt ((x1<0)∨(x0<x1)) (
 al (.slice none 0 0) [uw b0 v0,bh v0 x0 A0]) (
 ax (0≤x1) (
 ax (x1≤x0) (
 al ((aF 1 v0.v 0 (ag x1) (some (ag x1)))) [ak b0 true ([.bool false,(aF 1 v0.v (ag x1) (ag x0) none),.bool false]),bh v0 x0 A0]))))
theorem QS(al:PT)(x0 x1:Int)(A0:Nat→Int)(v0:V1)(b0:Nat)(h:Gy al x0 x1 A0 v0 b0):aq auN 45 [pp b0,.int .i64 x1] [Gr b0 v0,bh v0 x0 A0] al:=
 yM (C:=cx) Vb.XP Vb.UY Vb.AA ⟨[x0,x1],[A0],[],[b0],[v0],[],[],[]⟩ Tryz.func45 (by kernel_rfl) h
def QT(al:PT)(_ _:Int)(_:Nat→Int)(v0:V1)(b0:Nat):Prop:=
 al (.slice none 0 0) [uw b0 v0]
theorem QU(al:PT)(x0 x1:Int)(A0:Nat→Int)(v0:V1)(b0:Nat)(h:QT al x0 x1 A0 v0 b0):aq auN 45 [pp b0,.int .i64 x1] [uw b0 v0] al:=
 yM (C:=cx) Vb.XP Vb.KM Vb.AA ⟨[x0,x1],[A0],[],[b0],[v0],[],[],[]⟩ Tryz.func45 (by kernel_rfl) h
end Go.RX.Vb

namespace Go.Vs
def jd(l:List Nat):Nat:=l.foldl (fun n c=>n*256+c) 0
def be:Nat→Nat→List Nat
 | 0,_=>[]
 | k+1,n=>be k (n/256)++[n%256]
theorem au(k n:Nat):(be k n).length=k:=by
 induction k generalizing n with
 | zero=>rfl
 | succ k ih=>simp [be,ih]
theorem XR(k n:Nat): ∀x∈be k n,x<256:=by
 induction k generalizing n with
 | zero=>simp [be]
 | succ k ih=>
  intro x hx;simp only [be,auE,auz]at hx;rcases hx with hx | rfl
  ·exact ih _ x hx
  ·omega
theorem C_(l:List Nat)(c:Nat):jd (l++[c])=jd l*256+c:=by
 simp [jd,List.foldl_append]
theorem KO(k n:Nat)(h:n<256^k):jd (be k n)=n:=by
 induction k generalizing n with
 | zero=>
  have:n=0:=by simpa using h
  subst this;rfl
 | succ k ih=>
  rw [be,C_,ih _ (by rw [Nat.pow_succ]at h;omega)];omega
theorem Ea(k:Nat)(l:List Nat)(hl:l.length=k)(h: ∀x∈l,x<256):be k (jd l)=l∧jd l<256^k:=by
 induction k generalizing l with
 | zero=>
  rw [auH hl];exact⟨rfl,by simp [jd]⟩
 | succ k ih=>
  rcases List.eq_nil_or_concat l with rfl | ⟨l,c,rfl⟩
  ·simp at hl
  ·rw [List.concat_eq_append]at hl h ⊢;have hc:c<256:=h c (by simp);obtain⟨e,hb⟩:=ih l (by simpa using hl) fun x hx=>h x (by simp [hx])
   rw [be,C_,show(jd l*256+c)/256=jd l by omega,show(jd l*256+c)%256=c by omega,e,Nat.pow_succ];exact⟨rfl,by omega⟩
abbrev sR:=Option (List Nat)
def take(n:Nat):sR→Option (List Nat×List Nat)
 | some b=>if n≤b.length then some (b.take n,b.drop n)else none
 | none=>none
structure rb (α:Type) where
 enc:α→List Nat
 bD:sR→α×sR
 ok:α→Prop
 bad:(bD none).2=none
 fwd: ∀a r,ok a→bD (some (enc a++r))=(a,some r)
 bwd: ∀b a r,(∀x∈b,x<256)→bD (some b)=(a,some r)→b=enc a++r∧ok a
def raw(n:Nat):rb (List Nat) where
 enc a:=a
 bD o:=(take n o).elim (List.replicate n 0,none) fun p=>(p.1,some p.2)
 ok a:=a.length=n
 bad:=rfl
 fwd a r h:=by
  subst h;simp [take]
 bwd b a r hb h:=by
  by_cases hn:n≤b.length
  ·simp only [take,hn,if_true,Option.elim]at h;injection h with h1 h2
   injection h2 with h2
   subst h1 h2;exact⟨(List.take_append_drop n b).symm,List.length_take_of_le hn⟩
  ·simp only [take,hn,if_false,Option.elim]at h;injection h with h1 h2
   cases h2
def num(k:Nat):rb Nat where
 enc a:=be k a
 bD o:=(take k o).elim (0,none) fun p=>(jd p.1,some p.2)
 ok a:=a<256^k
 bad:=rfl
 fwd a r h:=by
  have e:=au k a;simp only [take,aum,e,Nat.le_add_right,if_true,Option.elim];rw [List.take_left' e,List.drop_left' e,KO k a h]
 bwd b a r hb h:=by
  by_cases hn:k≤b.length
  ·simp only [take,hn,if_true,Option.elim]at h;injection h with h1 h2
   injection h2 with h2
   subst h1 h2;obtain⟨e,cF⟩:=Ea k (b.take k) (List.length_take_of_le hn) fun x hx=>hb x (List.mem_of_mem_take hx)
   rw [e];exact⟨(List.take_append_drop k b).symm,cF⟩
  ·simp only [take,hn,if_false,Option.elim]at h;injection h with h1 h2
   cases h2
def flag:rb Bool where
 enc a:=[if a then 1 else 0]
 bD o:=((num 1).bD o).1==1 |> fun v=>(v,if((num 1).bD o).1≤1 then((num 1).bD o).2 else none)
 ok _:=True
 bad:=rfl
 fwd a r _:=by
  have:=(num 1).fwd (if a then 1 else 0) r (by cases a<;>simp [num]);have e:(num 1).enc (if a then 1 else 0)=[if a then 1 else 0]:=by cases a<;>rfl
  rw [e]at this;simp only [this];cases a<;>rfl
 bwd b a r hb h:=by
  cases hv:(num 1).bD (some b)with
  | mk v o=>
   simp only [hv]at h;injection h with h1 h2
   by_cases hle:v≤1
   ·simp only [hle,if_true]at h2;subst h2;have:=((num 1).bwd b v r hb hv).1;subst h1;refine⟨?_,trivial⟩;rw [this];have hc:v=0∨v=1:=by omega
    rcases hc with rfl | rfl<;>rfl
   ·simp [hle]at h2
theorem zw{b l r:List Nat}(hb: ∀x∈b,x<256)(e:b=l++r): ∀x∈r,x<256:=fun x hx=>hb x (by rw [e];simp [hx])
def pair{α β:Type}(c:rb α)(d:rb β):rb (α×β) where
 enc a:=c.enc a.1++d.enc a.2
 bD o:=(((c.bD o).1,(d.bD (c.bD o).2).1),(d.bD (c.bD o).2).2)
 ok a:=c.ok a.1∧d.ok a.2
 bad:=by simp only [c.bad,d.bad]
 fwd a r h:=by
  rw [List.append_assoc,c.fwd a.1 _ h.1];simp only;rw [d.fwd a.2 r h.2]
 bwd b a r hb h:=by
  cases hc:c.bD (some b)with
  | mk x o=>
   simp only [hc]at h;injection h with h1 h2
   subst h1;cases o with
   | none=>rw [d.bad]at h2;cases h2
   | some b'=>
    obtain⟨e,hx⟩:=c.bwd b x b' hb hc;cases hd:d.bD (some b')with
    | mk y o'=>
     rw [hd]at h2;simp only at h2;subst h2;obtain⟨e',hy⟩:=d.bwd b' y r (zw hb e) hd;exact⟨by rw [e,e',List.append_assoc],hx,hy⟩
def ml{α:Type}(c:rb α):Nat→sR→List α→List α×sR
 | 0,o,acc=>(acc,o)
 | _+1,none,acc=>(acc,none)
 | n+1,some b,acc=>ml c n (c.bD (some b)).2 (acc++[(c.bD (some b)).1])
theorem vM{α:Type}(c:rb α)(n:Nat)(acc:List α):ml c n none acc=(acc,none):=by cases n<;>rfl
theorem U6{α:Type}(c:rb α)(l:List α)(acc:List α)(r:List Nat)(h: ∀a∈l,c.ok a):ml c l.length (some (l.flatMap c.enc++r)) acc=(acc++l,some r):=by
 induction l generalizing acc with
 | nil=>simp [ml]
 | cons a l ih=>
  rw [List.length_cons,List.flatMap_cons,List.append_assoc,ml,c.fwd a _ (h a (by simp))];simp only;rw [ih _ fun x hx=>h x (by simp [hx])];simp
theorem U7{α:Type}(c:rb α)(n:Nat)(b:List Nat)(acc l:List α)(r:List Nat)(hb: ∀x∈b,x<256)(h:ml c n (some b) acc=(l,some r)):
  ∃m,l=acc++m∧m.length=n∧b=m.flatMap c.enc++r∧∀a∈m,c.ok a:=by
 induction n generalizing b acc with
 | zero=>
  injection h with h1 h2
  injection h2 with h2
  exact⟨[],by simp [h1],rfl,by simp [h2],by simp⟩
 | succ n ih=>
  rw [ml]at h;cases hc:c.bD (some b)with
  | mk x o=>
   rw [hc]at h;simp only at h;cases o with
   | none=>rw [vM]at h;cases h
   | some b'=>
    obtain⟨e,hx⟩:=c.bwd b x b' hb hc;obtain⟨m,h1,h2,h3,h4⟩:=ih b' _ (zw hb e) h;refine⟨x::m,by simp [h1],by simp [h2],by simp [e,h3],?_⟩;intro a ha;rcases List.mem_cons.1 ha with rfl | ha
    ·exact hx
    ·exact h4 a ha
def list{α:Type}(c:rb α):rb (List α) where
 enc l:=be 4 l.length++l.flatMap c.enc
 bD o:=ml c ((num 4).bD o).1 ((num 4).bD o).2 []
 ok l:=l.length<256^4∧∀a∈l,c.ok a
 bad:=by rw [(num 4).bad,vM]
 fwd a r h:=by
  have:=(num 4).fwd a.length (a.flatMap c.enc++r) h.1;rw [List.append_assoc];simp only [num]at this;simp only [num,this];rw [U6 c a [] r h.2,List.nil_append]
 bwd b a r hb h:=by
  cases hn:(num 4).bD (some b)with
  | mk n o=>
   rw [hn]at h;simp only at h;cases o with
   | none=>rw [vM]at h;cases h
   | some b'=>
    obtain⟨e,hx⟩:=(num 4).bwd b n b' hb hn;obtain⟨m,h1,h2,h3,h4⟩:=U7 c n b' [] a r (zw hb e) h;rw [List.nil_append]at h1;subst h1;subst h2;exact⟨by rw [List.append_assoc,←h3];exact e,hx,h4⟩
def text:rb (List Nat) where
 enc l:=be 4 l.length++l
 bD o:=(take ((num 4).bD o).1 ((num 4).bD o).2).elim ([],none) fun p=>(p.1,some p.2)
 ok l:=l.length<256^4
 bad:=by rw [(num 4).bad];rfl
 fwd a r h:=by
  have:=(num 4).fwd a.length (a++r) h;rw [List.append_assoc];simp only [num]at this;simp only [num,this];simp [take]
 bwd b a r hb h:=by
  cases hn:(num 4).bD (some b)with
  | mk n o=>
   rw [hn]at h;simp only at h;cases o with
   | none=>cases h
   | some b'=>
    obtain⟨e,hx⟩:=(num 4).bwd b n b' hb hn;by_cases hl:n≤b'.length
    ·simp only [take,hl,if_true,Option.elim]at h;injection h with h1 h2
     injection h2 with h2
     have h3:a.length=n:=by rw [←h1];exact List.length_take_of_le hl
     have e':b'=a++r:=by rw [←h1,←h2];exact(List.take_append_drop n b').symm
     subst h3;exact⟨by rw [List.append_assoc,←e'];exact e,hx⟩
    ·simp only [take,hl,if_false,Option.elim]at h;cases h
def O7{α β:Type}(c:rb α)(f:α→β)(g:β→α)(hfg: ∀b,f (g b)=b)(hgf: ∀a,g (f a)=a):rb β where
 enc b:=c.enc (g b)
 bD o:=(f (c.bD o).1,(c.bD o).2)
 ok b:=c.ok (g b)
 bad:=c.bad
 fwd b r h:=by simp only [c.fwd (g b) r h,hfg b]
 bwd b a r hb h:=by
  cases hc:c.bD (some b)with
  | mk x o=>
   simp only [hc]at h;injection h with h1 h2
   subst h1 h2;rw [hgf x];exact c.bwd b x r hb hc
structure jl where
 a:Nat
 d:Nat
 deriving DecidableEq,Repr
structure gX where
 dh:List Nat
 n:Nat
 msg:List Nat
 deriving DecidableEq,Repr
structure KP where
 key:List Nat
 n:Nat
 deriving DecidableEq,Repr
structure Y3 where
 root:List Nat
 bind:List Nat
 own:List Nat
 ej:List Nat
 jO:Bool
 jP:Bool
 jQ:Bool
 eD:Bool
 send:KP
 recv:KP
 prev:Nat
 aN:List gX
 deriving DecidableEq,Repr
structure cf where
 s:Y3
 ident:List Nat
 ux:List Nat
 ek:Bool
 eW:Nat
 own:Bool
 current:Bool
 deriving DecidableEq,Repr
structure cV where
 id:Nat
 cP:List Nat
 deriving DecidableEq,Repr
structure Keys where
 dev:jl
 ident:List Nat
 signed:List Nat
 once:List cV
 deriving DecidableEq,Repr
structure ez where
 dev:jl
 l:List cf
 deriving DecidableEq,Repr
structure Tab where
 keys:Keys
 most:Nat
 aL:List ez
 deriving DecidableEq,Repr
structure Call where
 me:jl
 dv:List Nat
 dead:List (List Nat)
 state:Nat
 id:List Nat
 out:Bool
 aP:Nat
 peer:jl
 own:List Nat
 dx:List Nat
 gY:List Nat
 marks:List Nat
 fQ:Nat
 early:List jl
 eO:Nat
 bV:Nat
 since:Nat
 heard:Nat
 mC:Nat
 hZ:Nat
 deriving DecidableEq,Repr
structure Room where
 id:List Nat
 aP:Nat
 out:Bool
 since:Nat
 deriving DecidableEq,Repr
structure State where
 mD:List Nat
 drawn:Nat
 table:Tab
 call:Call
 log:List Nat
 aH:List Room
 deriving DecidableEq,Repr
def gM:rb jl:=O7 (pair (num 1) (num 1)) (fun x=>⟨x.1,x.2⟩) (fun x=>(x.a,x.d)) (fun _=>rfl) (fun _=>rfl)
def dV:rb gX:=O7 (pair (raw 32) (pair (num 4) (raw 32))) (fun x=>⟨x.1,x.2.1,x.2.2⟩) (fun x=>(x.dh,x.n,x.msg)) (fun _=>rfl) (fun _=>rfl)
def QV:rb KP:=O7 (pair (raw 32) (num 4)) (fun x=>⟨x.1,x.2⟩) (fun x=>(x.key,x.n)) (fun _=>rfl) (fun _=>rfl)
def adJ:rb Y3:=O7 (pair (raw 32) (pair (raw 32) (pair (raw 32) (pair (raw 32) (pair flag (pair flag (pair flag (pair flag (pair QV (pair QV (pair (num 4) (list dV))))))))))))
 (fun x=>⟨x.1,x.2.1,x.2.2.1,x.2.2.2.1,x.2.2.2.2.1,x.2.2.2.2.2.1,x.2.2.2.2.2.2.1,x.2.2.2.2.2.2.2.1,x.2.2.2.2.2.2.2.2.1,x.2.2.2.2.2.2.2.2.2.1,x.2.2.2.2.2.2.2.2.2.2.1,x.2.2.2.2.2.2.2.2.2.2.2⟩)
 (fun x=>(x.root,x.bind,x.own,x.ej,x.jO,x.jP,x.jQ,x.eD,x.send,x.recv,x.prev,x.aN)) (fun _=>rfl) (fun _=>rfl)
def bS:rb cf:=O7 (pair adJ (pair (raw 32) (pair (raw 32) (pair flag (pair (num 4) (pair flag flag))))))
 (fun x=>⟨x.1,x.2.1,x.2.2.1,x.2.2.2.1,x.2.2.2.2.1,x.2.2.2.2.2.1,x.2.2.2.2.2.2⟩) (fun x=>(x.s,x.ident,x.ux,x.ek,x.eW,x.own,x.current)) (fun _=>rfl) (fun _=>rfl)
def dN:rb cV:=O7 (pair (num 4) (raw 32)) (fun x=>⟨x.1,x.2⟩) (fun x=>(x.id,x.cP)) (fun _=>rfl) (fun _=>rfl)
def adK:rb Keys:=O7 (pair gM (pair (raw 32) (pair (raw 32) (list dN)))) (fun x=>⟨x.1,x.2.1,x.2.2.1,x.2.2.2⟩) (fun x=>(x.dev,x.ident,x.signed,x.once)) (fun _=>rfl) (fun _=>rfl)
def bM:rb ez:=O7 (pair gM (list bS)) (fun x=>⟨x.1,x.2⟩) (fun x=>(x.dev,x.l)) (fun _=>rfl) (fun _=>rfl)
def ah1:rb Tab:=O7 (pair adK (pair (num 4) (list bM))) (fun x=>⟨x.1,x.2.1,x.2.2⟩) (fun x=>(x.keys,x.most,x.aL)) (fun _=>rfl) (fun _=>rfl)
def adL:rb Call:=O7 (pair gM (pair (raw 8) (pair (list (raw 16)) (pair (num 1) (pair (raw 16) (pair flag (pair (num 1) (pair gM (pair (raw 32) (pair (raw 32) (pair (raw 32) (pair text (pair (num 1) (pair (list gM) (pair (num 8) (pair (num 8) (pair (num 8) (pair (num 8) (pair (num 8) (num 4))))))))))))))))))))
 (fun x=>⟨x.1,x.2.1,x.2.2.1,x.2.2.2.1,x.2.2.2.2.1,x.2.2.2.2.2.1,x.2.2.2.2.2.2.1,x.2.2.2.2.2.2.2.1,x.2.2.2.2.2.2.2.2.1,x.2.2.2.2.2.2.2.2.2.1,x.2.2.2.2.2.2.2.2.2.2.1,x.2.2.2.2.2.2.2.2.2.2.2.1,x.2.2.2.2.2.2.2.2.2.2.2.2.1,x.2.2.2.2.2.2.2.2.2.2.2.2.2.1,x.2.2.2.2.2.2.2.2.2.2.2.2.2.2.1,x.2.2.2.2.2.2.2.2.2.2.2.2.2.2.2.1,x.2.2.2.2.2.2.2.2.2.2.2.2.2.2.2.2.1,x.2.2.2.2.2.2.2.2.2.2.2.2.2.2.2.2.2.1,x.2.2.2.2.2.2.2.2.2.2.2.2.2.2.2.2.2.2.1,x.2.2.2.2.2.2.2.2.2.2.2.2.2.2.2.2.2.2.2⟩)
 (fun x=>(x.me,x.dv,x.dead,x.state,x.id,x.out,x.aP,x.peer,x.own,x.dx,x.gY,x.marks,x.fQ,x.early,x.eO,x.bV,x.since,x.heard,x.mC,x.hZ)) (fun _=>rfl) (fun _=>rfl)
def dW:rb Room:=O7 (pair (raw 16) (pair (num 1) (pair flag (num 8)))) (fun x=>⟨x.1,x.2.1,x.2.2.1,x.2.2.2⟩) (fun x=>(x.id,x.aP,x.out,x.since)) (fun _=>rfl) (fun _=>rfl)
def aZ:rb State:=O7 (pair (raw 32) (pair (num 8) (pair ah1 (pair adL (pair text (list dW)))))) (fun x=>⟨x.1,x.2.1,x.2.2.1,x.2.2.2.1,x.2.2.2.2.1,x.2.2.2.2.2⟩) (fun x=>(x.mD,x.drawn,x.table,x.call,x.log,x.aH)) (fun _=>rfl) (fun _=>rfl)
end Go.Vs

namespace Go.RX.Vb
open Go Go.RX Go.Proofs Go.Vs
def aI(l:List Nat):Nat→Int:=fun j=>((l.getD j 0:Nat):Int)
abbrev aR(md:Bool)(v:Value)(l:List Nat):HP:=aB md 5 1 v l.length (aM l.length [ay .u8 1 (aI l)])
abbrev dy(b:Nat)(out:Bool)(v:Value)(bad:Bool):HP:=ak b true [.bool out,v,.bool bad]
abbrev wP(b:Nat):Value:= .pointer (some ⟨b,0,none⟩)
theorem lK{l:List Nat}{o:Nat}{z:Int}{c:Nat}(ho:o=l.length)(hz:z=c):aw (aI l) o z=aI (l++[c]):=by
 subst ho hz;funext j;simp only [aw,aI,auO];split
 ·rename_i h;subst h;simp
 ·rename_i h;by_cases hj:j<l.length
  ·rw [auu hj]
  ·rw [au0 (by omega),au0 (by simp;omega)]
theorem w8(n:Nat):ae .u8 (n:Int)=((n%256:Nat):Int):=by
 have:ae .u8 (n:Int)=(n:Int)%256:=rfl;omega
theorem sS(x s:Nat)(hs:s≤64):ar .shr .u64 (x:Int) (s:Int)=((x/2^s:Nat):Int):=by
 simp only [ar,auD];rw [show min s IntKind.u64.bits=s from Nat.min_eq_left hs];rw [show((2:Int)^s)=((2^s:Nat):Int) by norm_cast];rw [Int.fdiv_eq_ediv_of_nonneg _ (Int.natCast_nonneg _)]
 norm_cast
theorem gi(x s:Nat)(hs:s≤64)(z:Int)(hz:z=s):ae .u8 (ar .shr .u64 (x:Int) z)=((x/2^s%256:Nat):Int):=by rw [hz,sS x s hs,w8]
theorem Gz(b:Nat)(v:V1)(l:List Nat)(x:Nat)(hl:l.length+1≤140737488355328):aq auN 21 [wP b,.int .u64 (x:Int),.int .i64 1] [dy b true v.v false,aR true v.v l]
  fun r hs=>r= .int .u64 (x:Int)∧∃v':V1,hs=[dy b true v'.v false,aR true v'.v (l++be 1 x)]:=by
 refine QF _ (l.length:Int) (x:Int) (aI l) v b ?_;unfold Gs;dsimp only [bq,dt];intro _;refine⟨by omega,fun _=>⟨by omega,fun _ v'=>⟨rfl,v',?_⟩⟩⟩;rw [lK (by omega) (gi x 0 (by omega) 0 rfl)];simp only [be,List.nil_append,Nat.pow_zero,Nat.div_one,aR,aum,aun];rw [show((l.length:Int)+1).toNat=l.length+1 by omega]
theorem GA(b:Nat)(v:V1)(l:List Nat)(x:Nat)(hl:l.length+4≤140737488355328):aq auN 21 [wP b,.int .u64 (x:Int),.int .i64 4] [dy b true v.v false,aR true v.v l]
  fun r hs=>r= .int .u64 (x:Int)∧∃v':V1,hs=[dy b true v'.v false,aR true v'.v (l++be 4 x)]:=by
 refine QJ _ (l.length:Int) (x:Int) (aI l) v b ?_;unfold Gu;dsimp only [bq,dt];intro _;refine⟨by omega,fun _=>⟨by omega,fun _ _ _=>⟨by omega,fun _=>⟨by omega,fun _ _ _=>⟨by omega,fun _=>⟨by omega,fun _ _ _=>⟨by omega,fun _=>⟨by omega,fun _ v'=>⟨rfl,v',?_⟩⟩⟩⟩⟩⟩⟩⟩⟩;rw [lK (by omega) (gi x 24 (by omega) 24 rfl),lK (by simp only [aum,aun];omega) (gi x 16 (by omega) 16 rfl),lK (by simp only [aum,aun];omega) (gi x 8 (by omega) 8 rfl),lK (by simp only [aum,aun];omega) (gi x 0 (by omega) 0 rfl)];simp only [be,List.nil_append,Nat.pow_zero,Nat.div_one,aR,aum,List.append_assoc,Nat.div_div_eq_div_mul,Nat.reducePow,Nat.reduceMul,List.cons_append];rw [show((l.length:Int)+1+1+1+1).toNat=l.length+4 by omega];rfl
theorem GB(b:Nat)(v:V1)(l:List Nat)(x:Nat)(hl:l.length+8≤140737488355328):aq auN 21 [wP b,.int .u64 (x:Int),.int .i64 8] [dy b true v.v false,aR true v.v l]
  fun r hs=>r= .int .u64 (x:Int)∧∃v':V1,hs=[dy b true v'.v false,aR true v'.v (l++be 8 x)]:=by
 refine QO _ (l.length:Int) (x:Int) (aI l) v b ?_;unfold Gw;dsimp only [bq,dt];intro _;refine⟨by omega,fun _=>⟨by omega,fun _ _ _=>⟨by omega,fun _=>⟨by omega,fun _ _ _=>⟨by omega,fun _=>⟨by omega,fun _ _ _=>⟨by omega,fun _=>⟨by omega,fun _ _ _=>⟨by omega,fun _=>⟨by omega,fun _ _ _=>⟨by omega,fun _=>⟨by omega,fun _ _ _=>⟨by omega,fun _=>⟨by omega,fun _ _ _=>⟨by omega,fun _=>⟨by omega,fun _ v'=>⟨rfl,v',?_⟩⟩⟩⟩⟩⟩⟩⟩⟩⟩⟩⟩⟩⟩⟩⟩⟩;rw [lK (by omega) (gi x 56 (by omega) 56 rfl),lK (by simp only [aum,aun];omega) (gi x 48 (by omega) 48 rfl),lK (by simp only [aum,aun];omega) (gi x 40 (by omega) 40 rfl),lK (by simp only [aum,aun];omega) (gi x 32 (by omega) 32 rfl),lK (by simp only [aum,aun];omega) (gi x 24 (by omega) 24 rfl),lK (by simp only [aum,aun];omega) (gi x 16 (by omega) 16 rfl),lK (by simp only [aum,aun];omega) (gi x 8 (by omega) 8 rfl),lK (by simp only [aum,aun];omega) (gi x 0 (by omega) 0 rfl)];simp only [be,List.nil_append,Nat.pow_zero,Nat.div_one,aR,aum,List.append_assoc,Nat.div_div_eq_div_mul,Nat.reducePow,Nat.reduceMul,List.cons_append];rw [show((l.length:Int)+1+1+1+1+1+1+1+1).toNat=l.length+8 by omega];rfl
open Go Go.RX Go.Proofs Go.Vs
def cg(q:Bool)(l:List Nat):sR:=if q then none else some l
structure fL (l:List Nat):Prop where
 b: ∀x∈l,x<256
 n:l.length≤140737488355328
theorem fL.drop{l:List Nat}(h:fL l)(k:Nat):fL (l.drop k):=⟨fun x hx=>h.b x (List.mem_of_mem_drop hx),by rw [List.length_drop];exact Nat.le_trans (Nat.sub_le _ _) h.n⟩
theorem fL.take{l:List Nat}(h:fL l)(k:Nat):fL (l.take k):=⟨fun x hx=>h.b x (List.mem_of_mem_take hx),by rw [List.length_take];exact Nat.le_trans (Nat.min_le_right _ _) h.n⟩
theorem gj{l:List Nat}{j:Nat}(h:j<l.length):aI l j=((l[j]:Nat):Int):=by
 simp [aI,auO,auU h]
theorem vN(l:List Nat):aM l.length [ay .u8 1 (aI l)]=aj .u8 l.length (aI l):=by
 unfold aM aj ay;generalize aI l=f;generalize l.length=n
 induction n with
 | zero=>rfl
 | succ n ih=>rw [List.range_succ,List.flatMap_append,List.map_append,ih];simp [aj]
theorem GC(l:List Nat)(lo n:Nat)(h:lo+n≤l.length):((aM l.length [ay .u8 1 (aI l)]).drop (lo*1)).take (n*1)=aM ((l.drop lo).take n).length [ay .u8 1 (aI ((l.drop lo).take n))]:=by
 rw [vN,vN,Nat.mul_one,Nat.mul_one];refine List.ext_getElem? fun j=>?_
 have hl:((l.drop lo).take n).length=n:=by simp;omega
 by_cases hj:j<n
 ·rw [List.getElem?_take_of_lt hj,List.getElem?_drop];simp only [aj,List.getElem?_map,hl,List.getElem?_range hj,List.getElem?_range (show lo+j<l.length by omega),Option.map_some,aI,auO];rw [List.getElem?_take_of_lt hj,List.getElem?_drop]
 ·rw [au0 (by simp [aj];omega),au0 (by simp [aj,hl];omega)]
theorem bI.view{v:Value}{l:List Nat}{lo hi:Nat}{mx:Option Nat}{m:List Nat}(h1:lo≤hi)(h2:hi≤l.length)(h3: ∀m,mx=some m→hi≤m)(hm:m=(l.drop lo).take (hi - lo))(a:List HP)(i:Nat)(cD:a[i]? =some (aR false v l)):bI a (a.set i (aR false (aF 1 v lo hi mx) m)):=by
 refine bI.put i _ _ cD (fun h=>by cases h) fun w S hp=>?_
 obtain⟨S',hS,hk⟩:=Gk hp h1 h2 h3;rw [GC l lo (hi - lo) (by omega),←hm]at hS;have hl:m.length=hi - lo:=by subst hm;simp;omega
 exact⟨S',hk,by rw [←hl]at hS;exact hS⟩
theorem Y4(n:Nat)(h:n<256):ae .u64 (n:Int)=(n:Int):=by
 have:ae .u64 (n:Int)=(n:Int)%18446744073709551616:=rfl;omega
theorem ofI(w n:Nat):(BitVec.ofInt w (n:Int)).toNat=n%2^w:=by simp
theorem XS(n:Nat):ae .u64 (n:Int)=((n%2^64:Nat):Int):=by
 have:ae .u64 (n:Int)=(n:Int)%18446744073709551616:=rfl;omega
theorem adM{a c:Nat}(ha:a<2^64)(hc:c<2^64):ar .cK .u64 (a:Int) (c:Int)=((a|||c:Nat):Int):=by
 show ae .u64 ((BitVec.ofInt 64 (a:Int)|||BitVec.ofInt 64 (c:Int)).toNat:Int)=_;rw [XS,BitVec.toNat_or,ofI,ofI,Nat.mod_eq_of_lt ha,Nat.mod_eq_of_lt hc,Nat.mod_eq_of_lt (Nat.or_lt_two_pow ha hc)]
theorem adN{m:Nat}(hm:m*256<2^64):ar .shl .u64 (m:Int) 8=((m*256:Nat):Int):=by
 have:ar .shl .u64 (m:Int) 8=((m:Int)*256)%18446744073709551616:=rfl;omega
theorem adO{m c:Nat}(hc:c<256):m*256|||c=m*256+c:=by
 rw [Nat.mul_comm m,show(256:Nat)=2^8 from rfl,←Nat.two_pow_add_eq_or_of_lt (by omega)]
theorem lz{m c:Nat}(hm:m*256+c<2^64)(hc:c<256):ar .cK .u64 (ar .shl .u64 (m:Int) 8) (ae .u64 (c:Int))=((m*256+c:Nat):Int):=by
 have h1:m*256<2^64:=Nat.lt_of_le_of_lt (Nat.le_add_right _ _) hm;have h2:c<2^64:=Nat.lt_trans hc (by decide);rw [Y4 c hc,adN h1,adM h1 h2,adO hc]
theorem GD{c:Nat}(hc:c<256):ar .cK .u64 0 (ae .u64 (c:Int))=((c:Nat):Int):=by
 have h0:0*256+c<2^64:=by
  rw [Nat.zero_mul,Nat.zero_add];exact Nat.lt_trans hc (by decide)
 have:=lz h0 hc;have e:ar .shl .u64 ((0:Nat):Int) 8=0:=rfl;rw [e,Nat.zero_mul,Nat.zero_add]at this;exact this
theorem GF(b:Nat)(v:V1)(q:Bool)(l:List Nat)(hb:fL l)(x:Int):aq auN 21 [wP b,.int .u64 x,.int .i64 1] [dy b false v.v q,aR false v.v l]
  fun r hs=>r= .int .u64 (((num 1).bD (cg q l)).1:Int)∧∃(v':V1) (q':Bool) (l':List Nat),hs=[dy b false v'.v q',aR false v'.v l']∧cg q' l'=((num 1).bD (cg q l)).2∧fL l':=by
 cases q with
 | true=>
  refine(aq.frame (QI (fun r hs=>r= .int .u64 0∧hs=[dy b false v.v true]) 0 x (fun _=>0) v b ⟨rfl,rfl⟩) [aR false v.v l]).post ?_;rintro r hs ⟨lP,rfl,rfl,rfl⟩;exact⟨_,bI.refl _,rfl,v,true,l,rfl,rfl,hb⟩
 | false=>
  refine aq.post (QG (fun r hs=>if l.length<1 then r= .int .u64 0∧hs=[dy b false v.v true,aR false v.v l]else r= .int .u64 (jd (l.take 1):Int)∧hs=[dy b false (aF 1 v.v 1 l.length none) false,aR false v.v l]) (l.length:Int) x (aI l) v b ?_) ?_
  ·unfold Gt;dsimp only [bh,uw];refine⟨by omega,fun _=>⟨fun h=>?_,fun h=>?_⟩⟩
   ·try dsimp only
    rw [if_pos (by omega)];exact⟨rfl,rfl⟩
   ·have hl:1≤l.length:=by omega
    refine⟨by omega,fun _=>⟨by omega,fun _=>?_⟩⟩
    try dsimp only
    rw [if_neg (by omega)];simp only [auD];refine⟨?_,trivial⟩;obtain⟨c0,r,rfl⟩: ∃c0 r,l=c0::r:=by
     match l,hl with
     | c0::r,_=>exact⟨c0,r,rfl⟩
    have h0:c0<256:=hb.b c0 (by simp);simp only [aI,ah,jd,List.take_succ_cons,List.take_zero,List.foldl_cons,List.foldl_nil,Nat.zero_mul,Nat.zero_add];rw [GD h0]
  ·intro r hs h;by_cases hl:l.length<1
   ·rw [if_pos hl]at h;obtain⟨rfl,rfl⟩:=h;have e:(num 1).bD (cg false l)=(0,none):=by simp only [num,cg,take,Bool.false_eq_true,if_false,show¬1≤l.length by omega];rfl
    rw [e];exact⟨_,bI.refl _,rfl,v,true,l,rfl,rfl,hb⟩
   ·rw [if_neg hl]at h;obtain⟨rfl,rfl⟩:=h;have e:(num 1).bD (cg false l)=(jd (l.take 1),some (l.drop 1)):=by simp only [num,cg,take,Bool.false_eq_true,if_false,show 1≤l.length by omega,if_true];rfl
    rw [e];refine⟨_,bI.view (lo:=1) (hi:=l.length) (mx:=none) (m:=l.drop 1) (by omega) (Nat.le_refl _) (fun m h=>by cases h) (by rw [List.take_of_length_le (by simp)]) _ 1 rfl,rfl,⟨_,bR 1 v.v 1 l.length none⟩,false,l.drop 1,rfl,rfl,hb.drop _⟩
theorem GG(b:Nat)(v:V1)(q:Bool)(l:List Nat)(hb:fL l)(x:Int):aq auN 21 [wP b,.int .u64 x,.int .i64 4] [dy b false v.v q,aR false v.v l]
  fun r hs=>r= .int .u64 (((num 4).bD (cg q l)).1:Int)∧∃(v':V1) (q':Bool) (l':List Nat),hs=[dy b false v'.v q',aR false v'.v l']∧cg q' l'=((num 4).bD (cg q l)).2∧fL l':=by
 cases q with
 | true=>
  refine(aq.frame (QN (fun r hs=>r= .int .u64 0∧hs=[dy b false v.v true]) 0 x (fun _=>0) v b ⟨rfl,rfl⟩) [aR false v.v l]).post ?_;rintro r hs ⟨lP,rfl,rfl,rfl⟩;exact⟨_,bI.refl _,rfl,v,true,l,rfl,rfl,hb⟩
 | false=>
  refine aq.post (QL (fun r hs=>if l.length<4 then r= .int .u64 0∧hs=[dy b false v.v true,aR false v.v l]else r= .int .u64 (jd (l.take 4):Int)∧hs=[dy b false (aF 1 v.v 4 l.length none) false,aR false v.v l]) (l.length:Int) x (aI l) v b ?_) ?_
  ·unfold Gv;dsimp only [bh,uw];refine⟨by omega,fun _=>⟨fun h=>?_,fun h=>?_⟩⟩
   ·try dsimp only
    rw [if_pos (by omega)];exact⟨rfl,rfl⟩
   ·have hl:4≤l.length:=by omega
    iterate 5 refine⟨by omega,fun _=>?_⟩
    try dsimp only
    rw [if_neg (by omega)];simp only [auD];refine⟨?_,trivial⟩;obtain⟨c0,c1,c2,c3,r,rfl⟩: ∃c0 c1 c2 c3 r,l=c0::c1::c2::c3::r:=by
     match l,hl with
     | c0::c1::c2::c3::r,_=>exact⟨c0,c1,c2,c3,r,rfl⟩
    have h0:c0<256:=hb.b c0 (by simp);have h1:c1<256:=hb.b c1 (by simp);have h2:c2<256:=hb.b c2 (by simp);have h3:c3<256:=hb.b c3 (by simp);simp only [aI,ah,List.getD_cons_succ,jd,List.take_succ_cons,List.take_zero,List.foldl_cons,List.foldl_nil,Nat.zero_mul,Nat.zero_add];rw [GD h0,lz (by omega) h1,lz (by omega) h2,lz (by omega) h3]
  ·intro r hs h;by_cases hl:l.length<4
   ·rw [if_pos hl]at h;obtain⟨rfl,rfl⟩:=h;have e:(num 4).bD (cg false l)=(0,none):=by simp only [num,cg,take,Bool.false_eq_true,if_false,show¬4≤l.length by omega];rfl
    rw [e];exact⟨_,bI.refl _,rfl,v,true,l,rfl,rfl,hb⟩
   ·rw [if_neg hl]at h;obtain⟨rfl,rfl⟩:=h;have e:(num 4).bD (cg false l)=(jd (l.take 4),some (l.drop 4)):=by simp only [num,cg,take,Bool.false_eq_true,if_false,show 4≤l.length by omega,if_true];rfl
    rw [e];refine⟨_,bI.view (lo:=4) (hi:=l.length) (mx:=none) (m:=l.drop 4) (by omega) (Nat.le_refl _) (fun m h=>by cases h) (by rw [List.take_of_length_le (by simp)]) _ 1 rfl,rfl,⟨_,bR 1 v.v 4 l.length none⟩,false,l.drop 4,rfl,rfl,hb.drop _⟩
theorem GH(b:Nat)(v:V1)(q:Bool)(l:List Nat)(hb:fL l)(x:Int):aq auN 21 [wP b,.int .u64 x,.int .i64 8] [dy b false v.v q,aR false v.v l]
  fun r hs=>r= .int .u64 (((num 8).bD (cg q l)).1:Int)∧∃(v':V1) (q':Bool) (l':List Nat),hs=[dy b false v'.v q',aR false v'.v l']∧cg q' l'=((num 8).bD (cg q l)).2∧fL l':=by
 cases q with
 | true=>
  refine(aq.frame (QR (fun r hs=>r= .int .u64 0∧hs=[dy b false v.v true]) 0 x (fun _=>0) v b ⟨rfl,rfl⟩) [aR false v.v l]).post ?_;rintro r hs ⟨lP,rfl,rfl,rfl⟩;exact⟨_,bI.refl _,rfl,v,true,l,rfl,rfl,hb⟩
 | false=>
  refine aq.post (QP (fun r hs=>if l.length<8 then r= .int .u64 0∧hs=[dy b false v.v true,aR false v.v l]else r= .int .u64 (jd (l.take 8):Int)∧hs=[dy b false (aF 1 v.v 8 l.length none) false,aR false v.v l]) (l.length:Int) x (aI l) v b ?_) ?_
  ·unfold Gx;dsimp only [bh,uw];refine⟨by omega,fun _=>⟨fun h=>?_,fun h=>?_⟩⟩
   ·try dsimp only
    rw [if_pos (by omega)];exact⟨rfl,rfl⟩
   ·have hl:8≤l.length:=by omega
    iterate 9 refine⟨by omega,fun _=>?_⟩
    try dsimp only
    rw [if_neg (by omega)];simp only [auD];refine⟨?_,trivial⟩;obtain⟨c0,c1,c2,c3,c4,c5,c6,c7,r,rfl⟩: ∃c0 c1 c2 c3 c4 c5 c6 c7 r,l=c0::c1::c2::c3::c4::c5::c6::c7::r:=by
     match l,hl with
     | c0::c1::c2::c3::c4::c5::c6::c7::r,_=>exact⟨c0,c1,c2,c3,c4,c5,c6,c7,r,rfl⟩
    have h0:c0<256:=hb.b c0 (by simp);have h1:c1<256:=hb.b c1 (by simp);have h2:c2<256:=hb.b c2 (by simp);have h3:c3<256:=hb.b c3 (by simp);have h4:c4<256:=hb.b c4 (by simp);have h5:c5<256:=hb.b c5 (by simp);have h6:c6<256:=hb.b c6 (by simp);have h7:c7<256:=hb.b c7 (by simp);simp only [aI,ah,List.getD_cons_succ,jd,List.take_succ_cons,List.take_zero,List.foldl_cons,List.foldl_nil,Nat.zero_mul,Nat.zero_add];rw [GD h0,lz (by omega) h1,lz (by omega) h2,lz (by omega) h3,lz (by omega) h4,lz (by omega) h5,lz (by omega) h6,lz (by omega) h7]
  ·intro r hs h;by_cases hl:l.length<8
   ·rw [if_pos hl]at h;obtain⟨rfl,rfl⟩:=h;have e:(num 8).bD (cg false l)=(0,none):=by simp only [num,cg,take,Bool.false_eq_true,if_false,show¬8≤l.length by omega];rfl
    rw [e];exact⟨_,bI.refl _,rfl,v,true,l,rfl,rfl,hb⟩
   ·rw [if_neg hl]at h;obtain⟨rfl,rfl⟩:=h;have e:(num 8).bD (cg false l)=(jd (l.take 8),some (l.drop 8)):=by simp only [num,cg,take,Bool.false_eq_true,if_false,show 8≤l.length by omega,if_true];rfl
    rw [e];refine⟨_,bI.view (lo:=8) (hi:=l.length) (mx:=none) (m:=l.drop 8) (by omega) (Nat.le_refl _) (fun m h=>by cases h) (by rw [List.take_of_length_le (by simp)]) _ 1 rfl,rfl,⟨_,bR 1 v.v 8 l.length none⟩,false,l.drop 8,rfl,rfl,hb.drop _⟩
end Go.RX.Vb
