/- The store's walker. -/
import Derived.Test.YtllcdnkfbeokhaaGreatM22
open Go.IntKind renaming wrap -> ae
open Go.Proofs.Tryz renaming prog -> ax8
open Int renaming natCast_nonneg -> ax4, toNat -> ag, toNat_natCast -> ax3
open List renaming append_assoc -> ayl, eq_nil_of_length_eq_zero -> aye, flatMap_cons -> ayn, getD_cons_succ -> ayI, getD_cons_zero -> ah, getD_eq_getElem?_getD -> ayk, getElem?_append_left -> axX, getElem?_eq_getElem -> ays, length_append -> axP, length_cons -> ax5, length_singleton -> axR, mem_append -> ax_, mem_singleton -> ax2
namespace Go.RX.Vb
open Go.RX Go.Proofs
noncomputable def cx:Ctx:={T:=TT,FT:=FT}
noncomputable def cxF:Ctx:={T:=TT,FT:=FT,bj:=λf=>if f=21 then some Vc.o_ else none}
noncomputable def akC:Ctx:={T:=TT,FT:=FT,loops:=Vc.Rf,bj:=Vc.bj}
noncomputable def akD:Ctx:={T:=TT,FT:=FT,loops:=Vc.Rf,bj:=Vc.sF}
noncomputable def afC:Ctx:={T:=TT,FT:=FT,loops:=Ve.loops,bj:=Ve.Bv}
noncomputable def akE:Ctx:={T:=TT,FT:=FT,loops:=Ve.loops,bj:=Ve.sF}
noncomputable def akF:Ctx:={T:=TT,FT:=FT,loops:=Vd.loops,bj:=Vd.Bv}
noncomputable def akG:Ctx:={T:=TT,FT:=FT,loops:=Vd.loops,bj:=Vd.sF}
open Go.RX Go.Proofs
set_option maxRecDepth 100000
def G_(al:PT)(x0 x1:Int)(A0:Nat->Int)(_:V1)(b0:Nat):Prop:=
 ∀_:Nat,ay (0<=x0) (
 j8 ((x0+1)*1) (
 ∀v1:V1,al (.int .u64 x1) [gu b0 v1,cr v1 (x0+1) (au A0 (ag x0) (ae .u8 (ar .shr .u64 x1 0)))]))
theorem Rw(al:PT)(x0 x1:Int)(A0:Nat->Int)(v0:V1)(b0:Nat)(h:G_ al x0 x1 A0 v0 b0):ao ax8 21 [pp b0,.int .u64 x1,.int .i64 1] [gu b0 v0,cr v0 x0 A0] al:=
 qv (C:=cx) (Vb.EO 1) Vb.Re Vb.Bs ⟨[x0,x1],[A0],[],[b0],[v0],[],[],[]⟩ 2 Tryz.func21 (by kernel_rfl) h
def Hc(al:PT)(x0 _:Int)(A0:Nat->Int)(v0:V1)(b0:Nat):Prop:=
 ay (0<=x0) (
 bf (x0<1) (
 al (.int .u64 0) [uR b0 v0,bQ v0 x0 A0]) (
 ay (1<=x0) (
 ay (0<x0) (
 al (.int .u64 (ar .cU .u64 0 (ae .u64 (A0 0)))) [ak b0 true ([.bool false,(aK 1 v0.v 1 (ag x0) none),.bool false]),bQ v0 x0 A0]))))
theorem Rx(al:PT)(x0 x1:Int)(A0:Nat->Int)(v0:V1)(b0:Nat)(h:Hc al x0 x1 A0 v0 b0):ao ax8 21 [pp b0,.int .u64 x1,.int .i64 1] [G9 b0 v0,bQ v0 x0 A0] al:=
 qv (C:=cx) (Vb.EO 1) Vb.Wk Vb.Bs ⟨[x0,x1],[A0],[],[b0],[v0],[],[],[]⟩ 2 Tryz.func21 (by kernel_rfl) h
def Ry(al:PT)(_ _:Int)(_:Nat->Int)(v0:V1)(b0:Nat):Prop:=
 al (.int .u64 0) [uR b0 v0]
theorem Rz(al:PT)(x0 x1:Int)(A0:Nat->Int)(v0:V1)(b0:Nat)(h:Ry al x0 x1 A0 v0 b0):ao ax8 21 [pp b0,.int .u64 x1,.int .i64 1] [uR b0 v0] al:=
 vm (C:=cx) (Vb.EO 1) Vb.LI Vb.Bs ⟨[x0,x1],[A0],[],[b0],[v0],[],[],[]⟩ Tryz.func21 (by kernel_rfl) h
def Hd(al:PT)(x0 x1:Int)(A0:Nat->Int)(_:V1)(b0:Nat):Prop:=
 ∀_:Nat,ay (0<=x0) (
 j8 ((x0+1)*1) (
 ∀(_:V1) (_:Nat),ay (0<=(x0+1)) (
 ay ((((x0+1)+1)*1)<=140737488355328) (
 ∀(_:V1) (_:Nat),ay (0<=((x0+1)+1)) (
 ay (((((x0+1)+1)+1)*1)<=140737488355328) (
 ∀(_:V1) (_:Nat),ay (0<=(((x0+1)+1)+1)) (
 ay ((((((x0+1)+1)+1)+1)*1)<=140737488355328) (
 ∀v4:V1,al (.int .u64 x1) [gu b0 v4,cr v4 ((((x0+1)+1)+1)+1) (au (au (au (au A0 (ag x0) (ae .u8 (ar .shr .u64 x1 24))) (ag (x0+1)) (ae .u8 (ar .shr .u64 x1 16))) (ag ((x0+1)+1)) (ae .u8 (ar .shr .u64 x1 8))) (ag (((x0+1)+1)+1)) (ae .u8 (ar .shr .u64 x1 0)))]))))))))
theorem RA(al:PT)(x0 x1:Int)(A0:Nat->Int)(v0:V1)(b0:Nat)(h:Hd al x0 x1 A0 v0 b0):ao ax8 21 [pp b0,.int .u64 x1,.int .i64 4] [gu b0 v0,cr v0 x0 A0] al:=
 qv (C:=cx) (Vb.EO 4) Vb.Re Vb.Bs ⟨[x0,x1],[A0],[],[b0],[v0],[],[],[]⟩ 2 Tryz.func21 (by kernel_rfl) h
def Hf(al:PT)(x0 _:Int)(A0:Nat->Int)(v0:V1)(b0:Nat):Prop:=
 ay (0<=x0) (
 bf (x0<4) (
 al (.int .u64 0) [uR b0 v0,bQ v0 x0 A0]) (
 ay (4<=x0) (
 ay (0<x0) (
 ay (1<x0) (
 ay (2<x0) (
 ay (3<x0) (
 al (.int .u64 (ar .cU .u64 (ar .shl .u64 (ar .cU .u64 (ar .shl .u64 (ar .cU .u64 (ar .shl .u64 (ar .cU .u64 0 (ae .u64 (A0 0))) 8) (ae .u64 (A0 1))) 8) (ae .u64 (A0 2))) 8) (ae .u64 (A0 3)))) [ak b0 true ([.bool false,(aK 1 v0.v 4 (ag x0) none),.bool false]),bQ v0 x0 A0])))))))
theorem RB(al:PT)(x0 x1:Int)(A0:Nat->Int)(v0:V1)(b0:Nat)(h:Hf al x0 x1 A0 v0 b0):ao ax8 21 [pp b0,.int .u64 x1,.int .i64 4] [G9 b0 v0,bQ v0 x0 A0] al:=
 qv (C:=cx) (Vb.EO 4) Vb.Wk Vb.Bs ⟨[x0,x1],[A0],[],[b0],[v0],[],[],[]⟩ 2 Tryz.func21 (by kernel_rfl) h
def RC(al:PT)(_ _:Int)(_:Nat->Int)(v0:V1)(b0:Nat):Prop:=
 al (.int .u64 0) [uR b0 v0]
theorem RD(al:PT)(x0 x1:Int)(A0:Nat->Int)(v0:V1)(b0:Nat)(h:RC al x0 x1 A0 v0 b0):ao ax8 21 [pp b0,.int .u64 x1,.int .i64 4] [uR b0 v0] al:=
 vm (C:=cx) (Vb.EO 4) Vb.LI Vb.Bs ⟨[x0,x1],[A0],[],[b0],[v0],[],[],[]⟩ Tryz.func21 (by kernel_rfl) h
def Hg(al:PT)(x0 x1:Int)(A0:Nat->Int)(_:V1)(b0:Nat):Prop:=
 ∀_:Nat,ay (0<=x0) (
 j8 ((x0+1)*1) (
 ∀(_:V1) (_:Nat),ay (0<=(x0+1)) (
 ay ((((x0+1)+1)*1)<=140737488355328) (
 ∀(_:V1) (_:Nat),ay (0<=((x0+1)+1)) (
 ay (((((x0+1)+1)+1)*1)<=140737488355328) (
 ∀(_:V1) (_:Nat),ay (0<=(((x0+1)+1)+1)) (
 ay ((((((x0+1)+1)+1)+1)*1)<=140737488355328) (
 ∀(_:V1) (_:Nat),ay (0<=((((x0+1)+1)+1)+1)) (
 ay (((((((x0+1)+1)+1)+1)+1)*1)<=140737488355328) (
 ∀(_:V1) (_:Nat),ay (0<=(((((x0+1)+1)+1)+1)+1)) (
 ay ((((((((x0+1)+1)+1)+1)+1)+1)*1)<=140737488355328) (
 ∀(_:V1) (_:Nat),ay (0<=((((((x0+1)+1)+1)+1)+1)+1)) (
 ay (((((((((x0+1)+1)+1)+1)+1)+1)+1)*1)<=140737488355328) (
 ∀(_:V1) (_:Nat),ay (0<=(((((((x0+1)+1)+1)+1)+1)+1)+1)) (
 ay ((((((((((x0+1)+1)+1)+1)+1)+1)+1)+1)*1)<=140737488355328) (
 ∀v8:V1,al (.int .u64 x1) [gu b0 v8,cr v8 ((((((((x0+1)+1)+1)+1)+1)+1)+1)+1) (au (au (au (au (au (au (au (au A0 (ag x0) (ae .u8 (ar .shr .u64 x1 56))) (ag (x0+1)) (ae .u8 (ar .shr .u64 x1 48))) (ag ((x0+1)+1)) (ae .u8 (ar .shr .u64 x1 40))) (ag (((x0+1)+1)+1)) (ae .u8 (ar .shr .u64 x1 32))) (ag ((((x0+1)+1)+1)+1)) (ae .u8 (ar .shr .u64 x1 24))) (ag (((((x0+1)+1)+1)+1)+1)) (ae .u8 (ar .shr .u64 x1 16))) (ag ((((((x0+1)+1)+1)+1)+1)+1)) (ae .u8 (ar .shr .u64 x1 8))) (ag (((((((x0+1)+1)+1)+1)+1)+1)+1)) (ae .u8 (ar .shr .u64 x1 0)))]))))))))))))))))
theorem RE(al:PT)(x0 x1:Int)(A0:Nat->Int)(v0:V1)(b0:Nat)(h:Hg al x0 x1 A0 v0 b0):ao ax8 21 [pp b0,.int .u64 x1,.int .i64 8] [gu b0 v0,cr v0 x0 A0] al:=
 qv (C:=cx) (Vb.EO 8) Vb.Re Vb.Bs ⟨[x0,x1],[A0],[],[b0],[v0],[],[],[]⟩ 2 Tryz.func21 (by kernel_rfl) h
def Hh(al:PT)(x0 _:Int)(A0:Nat->Int)(v0:V1)(b0:Nat):Prop:=
 ay (0<=x0) (
 bf (x0<8) (
 al (.int .u64 0) [uR b0 v0,bQ v0 x0 A0]) (
 ay (8<=x0) (
 ay (0<x0) (
 ay (1<x0) (
 ay (2<x0) (
 ay (3<x0) (
 ay (4<x0) (
 ay (5<x0) (
 ay (6<x0) (
 ay (7<x0) (
 al (.int .u64 (ar .cU .u64 (ar .shl .u64 (ar .cU .u64 (ar .shl .u64 (ar .cU .u64 (ar .shl .u64 (ar .cU .u64 (ar .shl .u64 (ar .cU .u64 (ar .shl .u64 (ar .cU .u64 (ar .shl .u64 (ar .cU .u64 (ar .shl .u64 (ar .cU .u64 0 (ae .u64 (A0 0))) 8) (ae .u64 (A0 1))) 8) (ae .u64 (A0 2))) 8) (ae .u64 (A0 3))) 8) (ae .u64 (A0 4))) 8) (ae .u64 (A0 5))) 8) (ae .u64 (A0 6))) 8) (ae .u64 (A0 7)))) [ak b0 true ([.bool false,(aK 1 v0.v 8 (ag x0) none),.bool false]),bQ v0 x0 A0])))))))))))
theorem RF(al:PT)(x0 x1:Int)(A0:Nat->Int)(v0:V1)(b0:Nat)(h:Hh al x0 x1 A0 v0 b0):ao ax8 21 [pp b0,.int .u64 x1,.int .i64 8] [G9 b0 v0,bQ v0 x0 A0] al:=
 qv (C:=cx) (Vb.EO 8) Vb.Wk Vb.Bs ⟨[x0,x1],[A0],[],[b0],[v0],[],[],[]⟩ 2 Tryz.func21 (by kernel_rfl) h
def RG(al:PT)(_ _:Int)(_:Nat->Int)(v0:V1)(b0:Nat):Prop:=
 al (.int .u64 0) [uR b0 v0]
theorem RH(al:PT)(x0 x1:Int)(A0:Nat->Int)(v0:V1)(b0:Nat)(h:RG al x0 x1 A0 v0 b0):ao ax8 21 [pp b0,.int .u64 x1,.int .i64 8] [uR b0 v0] al:=
 vm (C:=cx) (Vb.EO 8) Vb.LI Vb.Bs ⟨[x0,x1],[A0],[],[b0],[v0],[],[],[]⟩ Tryz.func21 (by kernel_rfl) h
def Hi(al:PT)(x0 x1:Int)(A0:Nat->Int)(v0:V1)(b0:Nat):Prop:=
 ay ((x1<0)\/(0<=x0)) (
 bf ((x1<0)\/(x0<x1)) (
 al (.slice none 0 0) [uR b0 v0,bQ v0 x0 A0]) (
 ay (0<=x1) (
 ay (x1<=x0) (
 al ((aK 1 v0.v 0 (ag x1) (some (ag x1)))) [ak b0 true ([.bool false,(aK 1 v0.v (ag x1) (ag x0) none),.bool false]),bQ v0 x0 A0]))))
theorem RI(al:PT)(x0 x1:Int)(A0:Nat->Int)(v0:V1)(b0:Nat)(h:Hi al x0 x1 A0 v0 b0):ao ax8 45 [pp b0,.int .i64 x1] [G9 b0 v0,bQ v0 x0 A0] al:=
 vm (C:=cx) Vb.Y5 Vb.Wk Vb.Bs ⟨[x0,x1],[A0],[],[b0],[v0],[],[],[]⟩ Tryz.func45 (by kernel_rfl) h
def RJ(al:PT)(_ _:Int)(_:Nat->Int)(v0:V1)(b0:Nat):Prop:=
 al (.slice none 0 0) [uR b0 v0]
theorem RK(al:PT)(x0 x1:Int)(A0:Nat->Int)(v0:V1)(b0:Nat)(h:RJ al x0 x1 A0 v0 b0):ao ax8 45 [pp b0,.int .i64 x1] [uR b0 v0] al:=
 vm (C:=cx) Vb.Y5 Vb.LI Vb.Bs ⟨[x0,x1],[A0],[],[b0],[v0],[],[],[]⟩ Tryz.func45 (by kernel_rfl) h
end Go.RX.Vb

namespace Go.Vs
def jC(l:List Nat):Nat:=l.foldl (λn c=>n*256+c) 0
def be:Nat->Nat->List Nat
 | 0,_=>[]
 | k+1,n=>be k (n/256)++[n%256]
theorem aw(k n:Nat):(be k n).length=k:=by
 induction k generalizing n with
 | zero=>rfl
 | succ k ih=>simp[be,ih]
theorem Y_(k n:Nat): ∀x∈be k n,x<256:=by
 induction k generalizing n with
 | zero=>simp[be]
 | succ k ih=>
  intro x hx;simp only[be,ax_,ax2]at hx;rcases hx with hx | rfl
  .exact ih _ x hx
  .omega
theorem DQ(l:List Nat)(c:Nat):jC (l++[c])=jC l*256+c:=by
 simp[jC,List.foldl_append]
theorem LL(k n:Nat)(h:n<256^k):jC (be k n)=n:=by
 induction k generalizing n with
 | zero=>
  have:n=0:=by simpa using h
  subst this;rfl
 | succ k ih=>
  rw[be,DQ,ih _ (by rw[Nat.pow_succ]at h;omega)];omega
theorem LM(k:Nat)(l:List Nat)(hl:l.length=k)(h: ∀x∈l,x<256):be k (jC l)=l/\jC l<256^k:=by
 induction k generalizing l with
 | zero=>
  rw[aye hl];exact⟨rfl,by simp[jC]⟩
 | succ k ih=>
  rcases List.eq_nil_or_concat l with rfl | ⟨l,c,rfl⟩
  .simp at hl
  .rw [List.concat_eq_append]at hl h ⊢;have hc:c<256:=h c (by simp);obtain⟨e,hb⟩:=ih l (by simpa using hl) λx hx=>h x (by simp[hx])
   rw[be,DQ,show(jC l*256+c)/256=jC l by omega,show(jC l*256+c)%256=c by omega,e,Nat.pow_succ];exact⟨rfl,by omega⟩
abbrev tq:=Option (List Nat)
def take(n:Nat):tq->Option (List Nat×List Nat)
 | some b=>if n<=b.length then some (b.take n,b.drop n)else none
 | none=>none
structure rP (α:Type) where
 enc:α->List Nat
 bB:tq->α×tq
 ok:α->Prop
 bad:(bB none).2=none
 fwd: ∀a r,ok a->bB (some (enc a++r))=(a,some r)
 bwd: ∀b a r,(∀x∈b,x<256)->bB (some b)=(a,some r)->b=enc a++r/\ok a
def raw(n:Nat):rP (List Nat) where
 enc a:=a
 bB o:=(take n o).elim (List.replicate n 0,none) λp=>(p.1,some p.2)
 ok a:=a.length=n
 bad:=rfl
 fwd a r h:=by
  subst h;simp[take]
 bwd b a r hb h:=by
  by_cases hn:n<=b.length
  .simp only[take,hn,if_true,Option.elim]at h;injection h with h1 h2
   injection h2 with h2
   subst h1 h2;exact⟨(List.take_append_drop n b).symm,List.length_take_of_le hn⟩
  .simp only[take,hn,if_false,Option.elim]at h;injection h with h1 h2
   cases h2
def num(k:Nat):rP Nat where
 enc a:=be k a
 bB o:=(take k o).elim (0,none) λp=>(jC p.1,some p.2)
 ok a:=a<256^k
 bad:=rfl
 fwd a r h:=by
  have e:=aw k a;simp only[take,axP,e,Nat.le_add_right,if_true,Option.elim];rw[List.take_left' e,List.drop_left' e,LL k a h]
 bwd b a r hb h:=by
  by_cases hn:k<=b.length
  .simp only[take,hn,if_true,Option.elim]at h;injection h with h1 h2
   injection h2 with h2
   subst h1 h2;obtain⟨e,cC⟩:=LM k (b.take k) (List.length_take_of_le hn) λx hx=>hb x (List.mem_of_mem_take hx)
   rw[e];exact⟨(List.take_append_drop k b).symm,cC⟩
  .simp only[take,hn,if_false,Option.elim]at h;injection h with h1 h2
   cases h2
def flag:rP Bool where
 enc a:=[if a then 1 else 0]
 bB o:=((num 1).bB o).1==1 |> λv=>(v,if((num 1).bB o).1<=1 then((num 1).bB o).2 else none)
 ok _:=True
 bad:=rfl
 fwd a r _:=by
  have:=(num 1).fwd (if a then 1 else 0) r (by cases a<;>simp[num]);have e:(num 1).enc (if a then 1 else 0)=[if a then 1 else 0]:=by cases a<;>rfl
  rw[e]at this;simp only[this];cases a<;>rfl
 bwd b a r hb h:=by
  cases hv:(num 1).bB (some b)with
  | mk v o=>
   simp only[hv]at h;injection h with h1 h2
   by_cases hle:v<=1
   .simp only[hle,if_true]at h2;subst h2;have:=((num 1).bwd b v r hb hv).1;subst h1;refine⟨?_,trivial⟩;rw[this];have hc:v=0\/v=1:=by omega
    rcases hc with rfl | rfl<;>rfl
   .simp [hle]at h2
theorem Af{b l r:List Nat}(hb: ∀x∈b,x<256)(e:b=l++r): ∀x∈r,x<256:=λx hx=>hb x (by rw[e];simp[hx])
def pair{α β:Type}(c:rP α)(d:rP β):rP (α×β) where
 enc a:=c.enc a.1++d.enc a.2
 bB o:=(((c.bB o).1,(d.bB (c.bB o).2).1),(d.bB (c.bB o).2).2)
 ok a:=c.ok a.1/\d.ok a.2
 bad:=by simp only[c.bad,d.bad]
 fwd a r h:=by
  rw[ayl,c.fwd a.1 _ h.1];simp only;rw[d.fwd a.2 r h.2]
 bwd b a r hb h:=by
  cases hc:c.bB (some b)with
  | mk x o=>
   simp only[hc]at h;injection h with h1 h2
   subst h1;cases o with
   | none=>rw[d.bad]at h2;cases h2
   | some b'=>
    obtain⟨e,hx⟩:=c.bwd b x b' hb hc;cases hd:d.bB (some b')with
    | mk y o'=>
     rw[hd]at h2;simp only at h2;subst h2;obtain⟨e',hy⟩:=d.bwd b' y r (Af hb e) hd;exact⟨by rw[e,e',ayl],hx,hy⟩
def mS{α:Type}(c:rP α):Nat->tq->List α->List α×tq
 | 0,o,acc=>(acc,o)
 | _+1,none,acc=>(acc,none)
 | n+1,some b,acc=>mS c n (c.bB (some b)).2 (acc++[(c.bB (some b)).1])
theorem wv{α:Type}(c:rP α)(n:Nat)(acc:List α):mS c n none acc=(acc,none):=by cases n<;>rfl
theorem Wu{α:Type}(c:rP α)(l:List α)(acc:List α)(r:List Nat)(h: ∀a∈l,c.ok a):mS c l.length (some (l.flatMap c.enc++r)) acc=(acc++l,some r):=by
 induction l generalizing acc with
 | nil=>simp[mS]
 | cons a l ih=>
  rw[ax5,ayn,ayl,mS,c.fwd a _ (h a (by simp))];simp only;rw[ih _ λx hx=>h x (by simp[hx])];simp
theorem Wv{α:Type}(c:rP α)(n:Nat)(b:List Nat)(acc l:List α)(r:List Nat)(hb: ∀x∈b,x<256)(h:mS c n (some b) acc=(l,some r)):
  ∃m,l=acc++m/\m.length=n/\b=m.flatMap c.enc++r/\∀a∈m,c.ok a:=by
 induction n generalizing b acc with
 | zero=>
  injection h with h1 h2
  injection h2 with h2
  exact⟨[],by simp[h1],rfl,by simp[h2],by simp⟩
 | succ n ih=>
  rw[mS]at h;cases hc:c.bB (some b)with
  | mk x o=>
   rw[hc]at h;simp only at h;cases o with
   | none=>rw[wv]at h;cases h
   | some b'=>
    obtain⟨e,hx⟩:=c.bwd b x b' hb hc;obtain⟨m,h1,h2,h3,h4⟩:=ih b' _ (Af hb e) h;refine⟨x::m,by simp[h1],by simp[h2],by simp[e,h3],?_⟩;intro a ha;rcases List.mem_cons.1 ha with rfl | ha
    .exact hx
    .exact h4 a ha
def list{α:Type}(c:rP α):rP (List α) where
 enc l:=be 4 l.length++l.flatMap c.enc
 bB o:=mS c ((num 4).bB o).1 ((num 4).bB o).2 []
 ok l:=l.length<256^4/\∀a∈l,c.ok a
 bad:=by rw[(num 4).bad,wv]
 fwd a r h:=by
  have:=(num 4).fwd a.length (a.flatMap c.enc++r) h.1;rw[ayl];simp only[num]at this;simp only[num,this];rw[Wu c a [] r h.2,List.nil_append]
 bwd b a r hb h:=by
  cases hn:(num 4).bB (some b)with
  | mk n o=>
   rw[hn]at h;simp only at h;cases o with
   | none=>rw[wv]at h;cases h
   | some b'=>
    obtain⟨e,hx⟩:=(num 4).bwd b n b' hb hn;obtain⟨m,h1,h2,h3,h4⟩:=Wv c n b' [] a r (Af hb e) h;rw[List.nil_append]at h1;subst h1;subst h2;exact⟨by rw[ayl,<-h3];exact e,hx,h4⟩
def text:rP (List Nat) where
 enc l:=be 4 l.length++l
 bB o:=(take ((num 4).bB o).1 ((num 4).bB o).2).elim ([],none) λp=>(p.1,some p.2)
 ok l:=l.length<256^4
 bad:=by rw[(num 4).bad];rfl
 fwd a r h:=by
  have:=(num 4).fwd a.length (a++r) h;rw[ayl];simp only[num]at this;simp only[num,this];simp[take]
 bwd b a r hb h:=by
  cases hn:(num 4).bB (some b)with
  | mk n o=>
   rw[hn]at h;simp only at h;cases o with
   | none=>cases h
   | some b'=>
    obtain⟨e,hx⟩:=(num 4).bwd b n b' hb hn;by_cases hl:n<=b'.length
    .simp only[take,hl,if_true,Option.elim]at h;injection h with h1 h2
     injection h2 with h2
     have h3:a.length=n:=by rw[<-h1];exact List.length_take_of_le hl
     have e':b'=a++r:=by rw[<-h1,<-h2];exact(List.take_append_drop n b').symm
     subst h3;exact⟨by rw[ayl,<-e'];exact e,hx⟩
    .simp only[take,hl,if_false,Option.elim]at h;cases h
def P7{α β:Type}(c:rP α)(f:α->β)(g:β->α)(hfg: ∀b,f (g b)=b)(hgf: ∀a,g (f a)=a):rP β where
 enc b:=c.enc (g b)
 bB o:=(f (c.bB o).1,(c.bB o).2)
 ok b:=c.ok (g b)
 bad:=c.bad
 fwd b r h:=by simp only[c.fwd (g b) r h,hfg b]
 bwd b a r hb h:=by
  cases hc:c.bB (some b)with
  | mk x o=>
   simp only[hc]at h;injection h with h1 h2
   subst h1 h2;rw[hgf x];exact c.bwd b x r hb hc
structure js where
 a:Nat
 d:Nat
 deriving DecidableEq,Repr
structure fe where
 dh:List Nat
 n:Nat
 msg:List Nat
 deriving DecidableEq,Repr
structure yX where
 key:List Nat
 n:Nat
 deriving DecidableEq,Repr
structure Hj where
 root:List Nat
 bind:List Nat
 own:List Nat
 cJ:List Nat
 gi:Bool
 gj:Bool
 gk:Bool
 cS:Bool
 send:yX
 recv:yX
 prev:Nat
 aC:List fe
 deriving DecidableEq,Repr
structure bX where
 s:Hj
 ident:List Nat
 qG:List Nat
 cZ:Bool
 dH:Nat
 own:Bool
 current:Bool
 deriving DecidableEq,Repr
structure dj where
 id:Nat
 cT:List Nat
 deriving DecidableEq,Repr
structure Keys where
 dev:js
 ident:List Nat
 signed:List Nat
 once:List dj
 deriving DecidableEq,Repr
structure eu where
 dev:js
 l:List bX
 deriving DecidableEq,Repr
structure Tab where
 keys:Keys
 most:Nat
 aD:List eu
 deriving DecidableEq,Repr
structure Call where
 me:js
 bE:List Nat
 dead:List (List Nat)
 state:Nat
 id:List Nat
 out:Bool
 aM:Nat
 peer:js
 own:List Nat
 cH:List Nat
 fi:List Nat
 marks:List Nat
 fu:Nat
 early:List js
 eD:Nat
 bP:Nat
 since:Nat
 heard:Nat
 lJ:Nat
 fQ:Nat
 deriving DecidableEq,Repr
structure Room where
 id:List Nat
 aM:Nat
 out:Bool
 since:Nat
 deriving DecidableEq,Repr
structure State where
 lW:List Nat
 drawn:Nat
 table:Tab
 call:Call
 log:List Nat
 aF:List Room
 deriving DecidableEq,Repr
def gq:rP js:=P7 (pair (num 1) (num 1)) (λx=>⟨x.1,x.2⟩) (λx=>(x.a,x.d)) (λ_=>rfl) (λ_=>rfl)
def dv:rP fe:=P7 (pair (raw 32) (pair (num 4) (raw 32))) (λx=>⟨x.1,x.2.1,x.2.2⟩) (λx=>(x.dh,x.n,x.msg)) (λ_=>rfl) (λ_=>rfl)
def Bx:rP yX:=P7 (pair (raw 32) (num 4)) (λx=>⟨x.1,x.2⟩) (λx=>(x.key,x.n)) (λ_=>rfl) (λ_=>rfl)
def RL:rP Hj:=P7 (pair (raw 32) (pair (raw 32) (pair (raw 32) (pair (raw 32) (pair flag (pair flag (pair flag (pair flag (pair Bx (pair Bx (pair (num 4) (list dv))))))))))))
 (λx=>⟨x.1,x.2.1,x.2.2.1,x.2.2.2.1,x.2.2.2.2.1,x.2.2.2.2.2.1,x.2.2.2.2.2.2.1,x.2.2.2.2.2.2.2.1,x.2.2.2.2.2.2.2.2.1,x.2.2.2.2.2.2.2.2.2.1,x.2.2.2.2.2.2.2.2.2.2.1,x.2.2.2.2.2.2.2.2.2.2.2⟩)
 (λx=>(x.root,x.bind,x.own,x.cJ,x.gi,x.gj,x.gk,x.cS,x.send,x.recv,x.prev,x.aC)) (λ_=>rfl) (λ_=>rfl)
def bS:rP bX:=P7 (pair RL (pair (raw 32) (pair (raw 32) (pair flag (pair (num 4) (pair flag flag))))))
 (λx=>⟨x.1,x.2.1,x.2.2.1,x.2.2.2.1,x.2.2.2.2.1,x.2.2.2.2.2.1,x.2.2.2.2.2.2⟩) (λx=>(x.s,x.ident,x.qG,x.cZ,x.dH,x.own,x.current)) (λ_=>rfl) (λ_=>rfl)
def dE:rP dj:=P7 (pair (num 4) (raw 32)) (λx=>⟨x.1,x.2⟩) (λx=>(x.id,x.cT)) (λ_=>rfl) (λ_=>rfl)
def afD:rP Keys:=P7 (pair gq (pair (raw 32) (pair (raw 32) (list dE)))) (λx=>⟨x.1,x.2.1,x.2.2.1,x.2.2.2⟩) (λx=>(x.dev,x.ident,x.signed,x.once)) (λ_=>rfl) (λ_=>rfl)
def bI:rP eu:=P7 (pair gq (list bS)) (λx=>⟨x.1,x.2⟩) (λx=>(x.dev,x.l)) (λ_=>rfl) (λ_=>rfl)
def akI:rP Tab:=P7 (pair afD (pair (num 4) (list bI))) (λx=>⟨x.1,x.2.1,x.2.2⟩) (λx=>(x.keys,x.most,x.aD)) (λ_=>rfl) (λ_=>rfl)
def afE:rP Call:=P7 (pair gq (pair (raw 8) (pair (list (raw 16)) (pair (num 1) (pair (raw 16) (pair flag (pair (num 1) (pair gq (pair (raw 32) (pair (raw 32) (pair (raw 32) (pair text (pair (num 1) (pair (list gq) (pair (num 8) (pair (num 8) (pair (num 8) (pair (num 8) (pair (num 8) (num 4))))))))))))))))))))
 (λx=>⟨x.1,x.2.1,x.2.2.1,x.2.2.2.1,x.2.2.2.2.1,x.2.2.2.2.2.1,x.2.2.2.2.2.2.1,x.2.2.2.2.2.2.2.1,x.2.2.2.2.2.2.2.2.1,x.2.2.2.2.2.2.2.2.2.1,x.2.2.2.2.2.2.2.2.2.2.1,x.2.2.2.2.2.2.2.2.2.2.2.1,x.2.2.2.2.2.2.2.2.2.2.2.2.1,x.2.2.2.2.2.2.2.2.2.2.2.2.2.1,x.2.2.2.2.2.2.2.2.2.2.2.2.2.2.1,x.2.2.2.2.2.2.2.2.2.2.2.2.2.2.2.1,x.2.2.2.2.2.2.2.2.2.2.2.2.2.2.2.2.1,x.2.2.2.2.2.2.2.2.2.2.2.2.2.2.2.2.2.1,x.2.2.2.2.2.2.2.2.2.2.2.2.2.2.2.2.2.2.1,x.2.2.2.2.2.2.2.2.2.2.2.2.2.2.2.2.2.2.2⟩)
 (λx=>(x.me,x.bE,x.dead,x.state,x.id,x.out,x.aM,x.peer,x.own,x.cH,x.fi,x.marks,x.fu,x.early,x.eD,x.bP,x.since,x.heard,x.lJ,x.fQ)) (λ_=>rfl) (λ_=>rfl)
def dJ:rP Room:=P7 (pair (raw 16) (pair (num 1) (pair flag (num 8)))) (λx=>⟨x.1,x.2.1,x.2.2.1,x.2.2.2⟩) (λx=>(x.id,x.aM,x.out,x.since)) (λ_=>rfl) (λ_=>rfl)
def aX:rP State:=P7 (pair (raw 32) (pair (num 8) (pair akI (pair afE (pair text (list dJ)))))) (λx=>⟨x.1,x.2.1,x.2.2.1,x.2.2.2.1,x.2.2.2.2.1,x.2.2.2.2.2⟩) (λx=>(x.lW,x.drawn,x.table,x.call,x.log,x.aF)) (λ_=>rfl) (λ_=>rfl)
end Go.Vs

namespace Go.RX.Vb
open Go Go.RX Go.Proofs Go.Vs
def aJ(l:List Nat):Nat->Int:=λj=>((l.getD j 0:Nat):Int)
abbrev aN(md:Bool)(v:Value)(l:List Nat):HP:=aA md 5 1 v l.length (aG l.length [ax .u8 1 (aJ l)])
abbrev dB(b:Nat)(out:Bool)(v:Value)(bad:Bool):HP:=ak b true [.bool out,v,.bool bad]
abbrev wP(b:Nat):Value:= .pointer (some ⟨b,0,none⟩)
theorem mv{l:List Nat}{o:Nat}{z:Int}{c:Nat}(ho:o=l.length)(hz:z=c):au (aJ l) o z=aJ (l++[c]):=by
 subst ho hz;funext j;simp only[au,aJ,ayk];split
 .rename_i h;subst h;simp
 .rename_i h;by_cases hj:j<l.length
  .rw [axX hj]
  .rw [List.getElem?_eq_none (by omega),List.getElem?_eq_none (by simp;omega)]
theorem w8(n:Nat):ae .u8 (n:Int)=((n%256:Nat):Int):=by
 have:ae .u8 (n:Int)=(n:Int)%256:=rfl;omega
theorem tu(x s:Nat)(hs:s<=64):ar .shr .u64 (x:Int) (s:Int)=((x/2^s:Nat):Int):=by
 simp only[ar,ax3];rw[show min s IntKind.u64.bits=s from Nat.min_eq_left hs];rw[show((2:Int)^s)=((2^s:Nat):Int) by norm_cast];rw[Int.fdiv_eq_ediv_of_nonneg _ (ax4 _)]
 norm_cast
theorem gK(x s:Nat)(hs:s<=64)(z:Int)(hz:z=s):ae .u8 (ar .shr .u64 (x:Int) z)=((x/2^s%256:Nat):Int):=by rw[hz,tu x s hs,w8]
theorem Hk(b:Nat)(v:V1)(l:List Nat)(x:Nat)(hl:l.length+1<=140737488355328):ao ax8 21 [wP b,.int .u64 (x:Int),.int .i64 1] [dB b true v.v false,aN true v.v l]
  λr hs=>r= .int .u64 (x:Int)/\∃v':V1,hs=[dB b true v'.v false,aN true v'.v (l++be 1 x)]:=by
 refine Rw _ (l.length:Int) (x:Int) (aJ l) v b ?_;unfold G_;dsimp only[cr,gu];intro _;refine⟨by omega,λ_=>⟨by omega,λ_ v'=>⟨rfl,v',?_⟩⟩⟩;rw[mv (by omega) (gK x 0 (by omega) 0 rfl)];simp only[be,List.nil_append,Nat.pow_zero,Nat.div_one,aN,axP,axR];rw[show((l.length:Int)+1).toNat=l.length+1 by omega]
theorem Hl(b:Nat)(v:V1)(l:List Nat)(x:Nat)(hl:l.length+4<=140737488355328):ao ax8 21 [wP b,.int .u64 (x:Int),.int .i64 4] [dB b true v.v false,aN true v.v l]
  λr hs=>r= .int .u64 (x:Int)/\∃v':V1,hs=[dB b true v'.v false,aN true v'.v (l++be 4 x)]:=by
 refine RA _ (l.length:Int) (x:Int) (aJ l) v b ?_;unfold Hd;dsimp only[cr,gu];intro _;refine⟨by omega,λ_=>⟨by omega,λ_ _ _=>⟨by omega,λ_=>⟨by omega,λ_ _ _=>⟨by omega,λ_=>⟨by omega,λ_ _ _=>⟨by omega,λ_=>⟨by omega,λ_ v'=>⟨rfl,v',?_⟩⟩⟩⟩⟩⟩⟩⟩⟩;rw[mv (by omega) (gK x 24 (by omega) 24 rfl),mv (by simp only[axP,axR];omega) (gK x 16 (by omega) 16 rfl),mv (by simp only[axP,axR];omega) (gK x 8 (by omega) 8 rfl),mv (by simp only[axP,axR];omega) (gK x 0 (by omega) 0 rfl)];simp only[be,List.nil_append,Nat.pow_zero,Nat.div_one,aN,axP,ayl,Nat.div_div_eq_div_mul,Nat.reducePow,Nat.reduceMul,List.cons_append];rw[show((l.length:Int)+1+1+1+1).toNat=l.length+4 by omega];rfl
theorem Hm(b:Nat)(v:V1)(l:List Nat)(x:Nat)(hl:l.length+8<=140737488355328):ao ax8 21 [wP b,.int .u64 (x:Int),.int .i64 8] [dB b true v.v false,aN true v.v l]
  λr hs=>r= .int .u64 (x:Int)/\∃v':V1,hs=[dB b true v'.v false,aN true v'.v (l++be 8 x)]:=by
 refine RE _ (l.length:Int) (x:Int) (aJ l) v b ?_;unfold Hg;dsimp only[cr,gu];intro _;refine⟨by omega,λ_=>⟨by omega,λ_ _ _=>⟨by omega,λ_=>⟨by omega,λ_ _ _=>⟨by omega,λ_=>⟨by omega,λ_ _ _=>⟨by omega,λ_=>⟨by omega,λ_ _ _=>⟨by omega,λ_=>⟨by omega,λ_ _ _=>⟨by omega,λ_=>⟨by omega,λ_ _ _=>⟨by omega,λ_=>⟨by omega,λ_ _ _=>⟨by omega,λ_=>⟨by omega,λ_ v'=>⟨rfl,v',?_⟩⟩⟩⟩⟩⟩⟩⟩⟩⟩⟩⟩⟩⟩⟩⟩⟩;rw[mv (by omega) (gK x 56 (by omega) 56 rfl),mv (by simp only[axP,axR];omega) (gK x 48 (by omega) 48 rfl),mv (by simp only[axP,axR];omega) (gK x 40 (by omega) 40 rfl),mv (by simp only[axP,axR];omega) (gK x 32 (by omega) 32 rfl),mv (by simp only[axP,axR];omega) (gK x 24 (by omega) 24 rfl),mv (by simp only[axP,axR];omega) (gK x 16 (by omega) 16 rfl),mv (by simp only[axP,axR];omega) (gK x 8 (by omega) 8 rfl),mv (by simp only[axP,axR];omega) (gK x 0 (by omega) 0 rfl)];simp only[be,List.nil_append,Nat.pow_zero,Nat.div_one,aN,axP,ayl,Nat.div_div_eq_div_mul,Nat.reducePow,Nat.reduceMul,List.cons_append];rw[show((l.length:Int)+1+1+1+1+1+1+1+1).toNat=l.length+8 by omega];rfl
open Go Go.RX Go.Proofs Go.Vs
def ct(q:Bool)(l:List Nat):tq:=if q then none else some l
structure hZ (l:List Nat):Prop where
 b: ∀x∈l,x<256
 n:l.length<=140737488355328
theorem hZ.drop{l:List Nat}(h:hZ l)(k:Nat):hZ (l.drop k):=⟨λx hx=>h.b x (List.mem_of_mem_drop hx),by rw[List.length_drop];exact Nat.le_trans (Nat.sub_le _ _) h.n⟩
theorem hZ.take{l:List Nat}(h:hZ l)(k:Nat):hZ (l.take k):=⟨λx hx=>h.b x (List.mem_of_mem_take hx),by rw[List.length_take];exact Nat.le_trans (Nat.min_le_right _ _) h.n⟩
theorem gL{l:List Nat}{j:Nat}(h:j<l.length):aJ l j=((l[j]:Nat):Int):=by
 simp[aJ,ayk,ays h]
theorem wz(l:List Nat):aG l.length [ax .u8 1 (aJ l)]=aj .u8 l.length (aJ l):=by
 unfold aG aj ax;generalize aJ l=f;generalize l.length=n
 induction n with
 | zero=>rfl
 | succ n ih=>rw[List.range_succ,List.flatMap_append,List.map_append,ih];simp[aj]
theorem Hn(l:List Nat)(lo n:Nat)(h:lo+n<=l.length):((aG l.length [ax .u8 1 (aJ l)]).drop (lo*1)).take (n*1)=aG ((l.drop lo).take n).length [ax .u8 1 (aJ ((l.drop lo).take n))]:=by
 rw[wz,wz,Nat.mul_one,Nat.mul_one];refine List.ext_getElem? λj=>?_
 have hl:((l.drop lo).take n).length=n:=by simp;omega
 by_cases hj:j<n
 .rw [List.getElem?_take_of_lt hj,List.getElem?_drop];simp only[aj,List.getElem?_map,hl,List.getElem?_range hj,List.getElem?_range (show lo+j<l.length by omega),Option.map_some,aJ,ayk];rw[List.getElem?_take_of_lt hj,List.getElem?_drop]
 .rw [List.getElem?_eq_none (by simp[aj];omega),List.getElem?_eq_none (by simp[aj,hl];omega)]
theorem bq.view{v:Value}{l:List Nat}{lo hi:Nat}{mx:Option Nat}{m:List Nat}(h1:lo<=hi)(h2:hi<=l.length)(h3: ∀m,mx=some m->hi<=m)(hm:m=(l.drop lo).take (hi - lo))(a:List HP)(i:Nat)(cj:a[i]? =some (aN false v l)):bq a (a.set i (aN false (aK 1 v lo hi mx) m)):=by
 refine bq.put i _ _ cj (λh=>by cases h) λw S hp=>?_
 obtain⟨S',hS,hk⟩:=G0 hp h1 h2 h3;rw[Hn l lo (hi - lo) (by omega),<-hm]at hS;have hl:m.length=hi - lo:=by subst hm;simp;omega
 exact⟨S',hk,by rw[<-hl]at hS;exact hS⟩
theorem aay(n:Nat)(h:n<256):ae .u64 (n:Int)=(n:Int):=by
 have:ae .u64 (n:Int)=(n:Int)%18446744073709551616:=rfl;omega
theorem ofI(w n:Nat):(BitVec.ofInt w (n:Int)).toNat=n%2^w:=by simp
theorem Za(n:Nat):ae .u64 (n:Int)=((n%2^64:Nat):Int):=by
 have:ae .u64 (n:Int)=(n:Int)%18446744073709551616:=rfl;omega
theorem afF{a c:Nat}(ha:a<2^64)(hc:c<2^64):ar .cU .u64 (a:Int) (c:Int)=((a|||c:Nat):Int):=by
 show ae .u64 ((BitVec.ofInt 64 (a:Int)|||BitVec.ofInt 64 (c:Int)).toNat:Int)=_;rw[Za,BitVec.toNat_or,ofI,ofI,Nat.mod_eq_of_lt ha,Nat.mod_eq_of_lt hc,Nat.mod_eq_of_lt (Nat.or_lt_two_pow ha hc)]
theorem afG{m:Nat}(hm:m*256<2^64):ar .shl .u64 (m:Int) 8=((m*256:Nat):Int):=by
 have:ar .shl .u64 (m:Int) 8=((m:Int)*256)%18446744073709551616:=rfl;omega
theorem afH{m c:Nat}(hc:c<256):m*256|||c=m*256+c:=by
 rw[Nat.mul_comm m,show(256:Nat)=2^8 from rfl,<-Nat.two_pow_add_eq_or_of_lt (by omega)]
theorem mb{m c:Nat}(hm:m*256+c<2^64)(hc:c<256):ar .cU .u64 (ar .shl .u64 (m:Int) 8) (ae .u64 (c:Int))=((m*256+c:Nat):Int):=by
 have h1:m*256<2^64:=Nat.lt_of_le_of_lt (Nat.le_add_right _ _) hm;have h2:c<2^64:=Nat.lt_trans hc (by decide);rw[aay c hc,afG h1,afF h1 h2,afH hc]
theorem Ho{c:Nat}(hc:c<256):ar .cU .u64 0 (ae .u64 (c:Int))=((c:Nat):Int):=by
 have h0:0*256+c<2^64:=by
  rw[Nat.zero_mul,Nat.zero_add];exact Nat.lt_trans hc (by decide)
 have:=mb h0 hc;have e:ar .shl .u64 ((0:Nat):Int) 8=0:=rfl;rw[e,Nat.zero_mul,Nat.zero_add]at this;exact this
theorem Hp(b:Nat)(v:V1)(q:Bool)(l:List Nat)(hb:hZ l)(x:Int):ao ax8 21 [wP b,.int .u64 x,.int .i64 1] [dB b false v.v q,aN false v.v l]
  λr hs=>r= .int .u64 (((num 1).bB (ct q l)).1:Int)/\∃(v':V1) (q':Bool) (l':List Nat),hs=[dB b false v'.v q',aN false v'.v l']/\ct q' l'=((num 1).bB (ct q l)).2/\hZ l':=by
 cases q with
 | true=>
  refine(ao.frame (Rz (λr hs=>r= .int .u64 0/\hs=[dB b false v.v true]) 0 x (λ_=>0) v b ⟨rfl,rfl⟩) [aN false v.v l]).post ?_;rintro r hs ⟨lU,rfl,rfl,rfl⟩;exact⟨_,bq.refl _,rfl,v,true,l,rfl,rfl,hb⟩
 | false=>
  refine ao.post (Rx (λr hs=>if l.length<1 then r= .int .u64 0/\hs=[dB b false v.v true,aN false v.v l]else r= .int .u64 (jC (l.take 1):Int)/\hs=[dB b false (aK 1 v.v 1 l.length none) false,aN false v.v l]) (l.length:Int) x (aJ l) v b ?_) ?_
  .unfold Hc;dsimp only[bQ,uR];refine⟨by omega,λ_=>⟨λh=>?_,λh=>?_⟩⟩
   .try dsimp only
    rw[if_pos (by omega)];exact⟨rfl,rfl⟩
   .have hl:1<=l.length:=by omega
    refine⟨by omega,λ_=>⟨by omega,λ_=>?_⟩⟩
    try dsimp only
    rw[if_neg (by omega)];simp only[ax3];refine⟨?_,trivial⟩;obtain⟨c0,r,rfl⟩: ∃c0 r,l=c0::r:=by
     match l,hl with
     | c0::r,_=>exact⟨c0,r,rfl⟩
    have h0:c0<256:=hb.b c0 (by simp);simp only[aJ,ah,jC,List.take_succ_cons,List.take_zero,List.foldl_cons,List.foldl_nil,Nat.zero_mul,Nat.zero_add];rw[Ho h0]
  .intro r hs h;by_cases hl:l.length<1
   .rw [if_pos hl]at h;obtain⟨rfl,rfl⟩:=h;have e:(num 1).bB (ct false l)=(0,none):=by simp only[num,ct,take,Bool.false_eq_true,if_false,show¬1<=l.length by omega];rfl
    rw[e];exact⟨_,bq.refl _,rfl,v,true,l,rfl,rfl,hb⟩
   .rw [if_neg hl]at h;obtain⟨rfl,rfl⟩:=h;have e:(num 1).bB (ct false l)=(jC (l.take 1),some (l.drop 1)):=by simp only[num,ct,take,Bool.false_eq_true,if_false,show 1<=l.length by omega,if_true];rfl
    rw[e];refine⟨_,bq.view (lo:=1) (hi:=l.length) (mx:=none) (m:=l.drop 1) (by omega) (Nat.le_refl _) (λm h=>by cases h) (by rw[List.take_of_length_le (by simp)]) _ 1 rfl,rfl,⟨_,cD 1 v.v 1 l.length none⟩,false,l.drop 1,rfl,rfl,hb.drop _⟩
theorem Hq(b:Nat)(v:V1)(q:Bool)(l:List Nat)(hb:hZ l)(x:Int):ao ax8 21 [wP b,.int .u64 x,.int .i64 4] [dB b false v.v q,aN false v.v l]
  λr hs=>r= .int .u64 (((num 4).bB (ct q l)).1:Int)/\∃(v':V1) (q':Bool) (l':List Nat),hs=[dB b false v'.v q',aN false v'.v l']/\ct q' l'=((num 4).bB (ct q l)).2/\hZ l':=by
 cases q with
 | true=>
  refine(ao.frame (RD (λr hs=>r= .int .u64 0/\hs=[dB b false v.v true]) 0 x (λ_=>0) v b ⟨rfl,rfl⟩) [aN false v.v l]).post ?_;rintro r hs ⟨lU,rfl,rfl,rfl⟩;exact⟨_,bq.refl _,rfl,v,true,l,rfl,rfl,hb⟩
 | false=>
  refine ao.post (RB (λr hs=>if l.length<4 then r= .int .u64 0/\hs=[dB b false v.v true,aN false v.v l]else r= .int .u64 (jC (l.take 4):Int)/\hs=[dB b false (aK 1 v.v 4 l.length none) false,aN false v.v l]) (l.length:Int) x (aJ l) v b ?_) ?_
  .unfold Hf;dsimp only[bQ,uR];refine⟨by omega,λ_=>⟨λh=>?_,λh=>?_⟩⟩
   .try dsimp only
    rw[if_pos (by omega)];exact⟨rfl,rfl⟩
   .have hl:4<=l.length:=by omega
    iterate 5 refine⟨by omega,λ_=>?_⟩
    try dsimp only
    rw[if_neg (by omega)];simp only[ax3];refine⟨?_,trivial⟩;obtain⟨c0,c1,c2,c3,r,rfl⟩: ∃c0 c1 c2 c3 r,l=c0::c1::c2::c3::r:=by
     match l,hl with
     | c0::c1::c2::c3::r,_=>exact⟨c0,c1,c2,c3,r,rfl⟩
    have h0:c0<256:=hb.b c0 (by simp);have h1:c1<256:=hb.b c1 (by simp);have h2:c2<256:=hb.b c2 (by simp);have h3:c3<256:=hb.b c3 (by simp);simp only[aJ,ah,ayI,jC,List.take_succ_cons,List.take_zero,List.foldl_cons,List.foldl_nil,Nat.zero_mul,Nat.zero_add];rw[Ho h0,mb (by omega) h1,mb (by omega) h2,mb (by omega) h3]
  .intro r hs h;by_cases hl:l.length<4
   .rw [if_pos hl]at h;obtain⟨rfl,rfl⟩:=h;have e:(num 4).bB (ct false l)=(0,none):=by simp only[num,ct,take,Bool.false_eq_true,if_false,show¬4<=l.length by omega];rfl
    rw[e];exact⟨_,bq.refl _,rfl,v,true,l,rfl,rfl,hb⟩
   .rw [if_neg hl]at h;obtain⟨rfl,rfl⟩:=h;have e:(num 4).bB (ct false l)=(jC (l.take 4),some (l.drop 4)):=by simp only[num,ct,take,Bool.false_eq_true,if_false,show 4<=l.length by omega,if_true];rfl
    rw[e];refine⟨_,bq.view (lo:=4) (hi:=l.length) (mx:=none) (m:=l.drop 4) (by omega) (Nat.le_refl _) (λm h=>by cases h) (by rw[List.take_of_length_le (by simp)]) _ 1 rfl,rfl,⟨_,cD 1 v.v 4 l.length none⟩,false,l.drop 4,rfl,rfl,hb.drop _⟩
theorem Hr(b:Nat)(v:V1)(q:Bool)(l:List Nat)(hb:hZ l)(x:Int):ao ax8 21 [wP b,.int .u64 x,.int .i64 8] [dB b false v.v q,aN false v.v l]
  λr hs=>r= .int .u64 (((num 8).bB (ct q l)).1:Int)/\∃(v':V1) (q':Bool) (l':List Nat),hs=[dB b false v'.v q',aN false v'.v l']/\ct q' l'=((num 8).bB (ct q l)).2/\hZ l':=by
 cases q with
 | true=>
  refine(ao.frame (RH (λr hs=>r= .int .u64 0/\hs=[dB b false v.v true]) 0 x (λ_=>0) v b ⟨rfl,rfl⟩) [aN false v.v l]).post ?_;rintro r hs ⟨lU,rfl,rfl,rfl⟩;exact⟨_,bq.refl _,rfl,v,true,l,rfl,rfl,hb⟩
 | false=>
  refine ao.post (RF (λr hs=>if l.length<8 then r= .int .u64 0/\hs=[dB b false v.v true,aN false v.v l]else r= .int .u64 (jC (l.take 8):Int)/\hs=[dB b false (aK 1 v.v 8 l.length none) false,aN false v.v l]) (l.length:Int) x (aJ l) v b ?_) ?_
  .unfold Hh;dsimp only[bQ,uR];refine⟨by omega,λ_=>⟨λh=>?_,λh=>?_⟩⟩
   .try dsimp only
    rw[if_pos (by omega)];exact⟨rfl,rfl⟩
   .have hl:8<=l.length:=by omega
    iterate 9 refine⟨by omega,λ_=>?_⟩
    try dsimp only
    rw[if_neg (by omega)];simp only[ax3];refine⟨?_,trivial⟩;obtain⟨c0,c1,c2,c3,c4,c5,c6,c7,r,rfl⟩: ∃c0 c1 c2 c3 c4 c5 c6 c7 r,l=c0::c1::c2::c3::c4::c5::c6::c7::r:=by
     match l,hl with
     | c0::c1::c2::c3::c4::c5::c6::c7::r,_=>exact⟨c0,c1,c2,c3,c4,c5,c6,c7,r,rfl⟩
    have h0:c0<256:=hb.b c0 (by simp);have h1:c1<256:=hb.b c1 (by simp);have h2:c2<256:=hb.b c2 (by simp);have h3:c3<256:=hb.b c3 (by simp);have h4:c4<256:=hb.b c4 (by simp);have h5:c5<256:=hb.b c5 (by simp);have h6:c6<256:=hb.b c6 (by simp);have h7:c7<256:=hb.b c7 (by simp);simp only[aJ,ah,ayI,jC,List.take_succ_cons,List.take_zero,List.foldl_cons,List.foldl_nil,Nat.zero_mul,Nat.zero_add];rw[Ho h0,mb (by omega) h1,mb (by omega) h2,mb (by omega) h3,mb (by omega) h4,mb (by omega) h5,mb (by omega) h6,mb (by omega) h7]
  .intro r hs h;by_cases hl:l.length<8
   .rw [if_pos hl]at h;obtain⟨rfl,rfl⟩:=h;have e:(num 8).bB (ct false l)=(0,none):=by simp only[num,ct,take,Bool.false_eq_true,if_false,show¬8<=l.length by omega];rfl
    rw[e];exact⟨_,bq.refl _,rfl,v,true,l,rfl,rfl,hb⟩
   .rw [if_neg hl]at h;obtain⟨rfl,rfl⟩:=h;have e:(num 8).bB (ct false l)=(jC (l.take 8),some (l.drop 8)):=by simp only[num,ct,take,Bool.false_eq_true,if_false,show 8<=l.length by omega,if_true];rfl
    rw[e];refine⟨_,bq.view (lo:=8) (hi:=l.length) (mx:=none) (m:=l.drop 8) (by omega) (Nat.le_refl _) (λm h=>by cases h) (by rw[List.take_of_length_le (by simp)]) _ 1 rfl,rfl,⟨_,cD 1 v.v 8 l.length none⟩,false,l.drop 8,rfl,rfl,hb.drop _⟩
end Go.RX.Vb
