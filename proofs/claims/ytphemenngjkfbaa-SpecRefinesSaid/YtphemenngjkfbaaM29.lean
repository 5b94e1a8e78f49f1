/- SpecOne. -/
import Derived.Test.YtphemenngjkfbaaM28
open Classical renaming not_not → agE
open Go.Proofs.Try renaming prog → agQ
open List renaming append → agw, append_assoc → ahf, getD_cons_zero → ah
namespace Go.RX.So
open Go.RX Go.Proofs
theorem lR(v:V1)(n a d:Int)(A0 A1:Nat→Int)(h0:0≤n)(h1:n≤9223372036854775807):
  au agQ 138 [v.v,.agg #[.int .u8 a,.int .u8 d]] [aC true 30 2 v.v n.toNat (aT n.toNat [ax .u8 1 A0,ax .u8 1 A1])]
   (fun r hs=> ∃k:Int,r= .int .i64 k∧hs=[aC true 30 2 v.v n.toNat (aT n.toNat [ax .u8 1 A0,ax .u8 1 A1])]∧(0≤k↔∃j:Nat,j<n.toNat∧A0 j=a∧A1 j=d)):=by
 refine au.post (p:=fun r hs=> ∃ey,aB hs ey∧∃k:Int,r= .int .i64 k∧ey=[aC true 30 2 v.v n.toNat (aT n.toNat [ax .u8 1 A0,ax .u8 1 A1])]∧(0≤k↔∃j:Nat,j<n.toNat∧A0 j=a∧A1 j=d)) ?_ fun v hs h=>h
 refine au.d_ (C:=cx) (args:=[.vv 0,.agg [So.u8 0,So.u8 1]]) (hp:=[.cy true 0 30 2 (.var 2) [⟨.int .u8,1,.aw 0⟩,⟨.int .u8,1,.aw 1⟩]]) (aS:={i:=3,a:=2,v:=1}) (ρ:={iv:=[a,d,n],av:=[A0,A1],vv:=[v]}) sU iS sV Try.func138 (by constructor<;>rfl) xd (AX agQ _ a d n A0 A1 v _) ?_;unfold rz;refine fun b0=>aE.mk h0 fun _=>⟨fun e=>0≤e.i.getD 0 0∧∀j:Nat,j<(e.i.getD 0 0).toNat→¬(A0 j=a∧A1 j=d),fun e=>(n - e.i.getD 0 0).toNat,⟨0,rfl,by simp⟩,?_⟩
 rintro i ⟨Kh,DF⟩;simp only [ah]at Kh DF;refine aK.mk (fun cZ=>aE.mk Kh fun _=>aK.mk (fun he=>?_) fun eJ=>?_) fun uJ=>?_
 ·exact⟨_,aB.sub (List.Sublist.cons_cons _ (List.Sublist.cons _ List.Sublist.slnil)),i,rfl,rfl,⟨fun _=>⟨i.toNat,by omega,he.1.symm,he.2.symm⟩,fun _=>Kh⟩⟩
 ·refine aE.mk (by omega) fun _=>aE.mk (by omega) fun _=>⟨_,rfl,?_,?_⟩
  ·simp only [ah];refine⟨by omega,fun j hj hh=>?_⟩;by_cases sM:j=i.toNat
   ·subst sM;exact eJ ⟨hh.1.symm,hh.2.symm⟩
   ·exact DF j (by omega) hh
  ·simp only [ah];omega
 ·exact⟨_,aB.sub (List.Sublist.cons_cons _ (List.Sublist.cons _ List.Sublist.slnil)), -1,rfl,rfl,⟨fun h=>absurd h (by decide),fun⟨j,h1,h2⟩=>absurd h2 (DF j (by omega))⟩⟩
theorem AY(v:V1)(n a d:Int)(A0 A1:Nat→Int)(h0:0≤n)(h1:n≤9223372036854775807):
  au agQ 122 [v.v,.agg #[.int .u8 a,.int .u8 d]] [aC true 30 2 v.v n.toNat (aT n.toNat [ax .u8 1 A0,ax .u8 1 A1])]
   (fun r hs=> ∃q:Bool,r= .bool q∧hs=[aC true 30 2 v.v n.toNat (aT n.toNat [ax .u8 1 A0,ax .u8 1 A1])]∧(q=true↔∃j:Nat,j<n.toNat∧A0 j=a∧A1 j=d)):=by
 refine au.post (p:=fun r hs=> ∃ey,aB hs ey∧∃q:Bool,r= .bool q∧ey=[aC true 30 2 v.v n.toNat (aT n.toNat [ax .u8 1 A0,ax .u8 1 A1])]∧(q=true↔∃j:Nat,j<n.toNat∧A0 j=a∧A1 j=d)) ?_ fun v hs h=>h
 refine au.d_ (C:=cx) (args:=[.vv 0,.agg [So.u8 0,So.u8 1]]) (hp:=[.cy true 0 30 2 (.var 2) [⟨.int .u8,1,.aw 0⟩,⟨.int .u8,1,.aw 1⟩]]) (aS:={i:=3,a:=2,v:=1}) (ρ:={iv:=[a,d,n],av:=[A0,A1],vv:=[v]}) sU iS sV Try.func122 (by constructor<;>rfl) EO (GL agQ _ a d n A0 A1 v _) ?_;unfold yr;refine fun b0=>⟨_,lR v n a d A0 A1 h0 h1,?_⟩
 rintro r hs ⟨k,rfl,rfl,hk⟩;exact⟨k,rfl,rfl,_,aB.sub (List.Sublist.cons_cons _ (List.Sublist.cons _ List.Sublist.slnil)),_,rfl,rfl,by rw [decide_eq_true_iff];exact hk⟩
def KE(b mc ma bd bh bc:Nat)(v v1:V1)(s:Sy)(e:Ev)(d:Dv)(c:Cl)(r:Value)(hs:List HP):Prop:=
 (r= .int .i64 6∧dt e s.last d c=none∧hs=dE b mc ma s++iO bd bh v d++lz bc v1 c)∨
 (r= .int .i64 0∧∃d' c' w w1,dt e s.last d c=some (d',c')∧hs=dE b mc ma {s with last:=e.at_}++iO bd bh w d'++lz bc w1 c')
theorem GP(b mc ma bd bh bc:Nat)(v v1:V1)(s:Sy)(e:Ev)(d:Dv)(c:Cl)(h1:s.vH (oQ e.da e.dd)=1)(h2:s.vI (oQ e.da e.dd)=(bd:Nat)+1)(h3:s.xe (qE e.id)=1)(h4:s.xg (qE e.id)=(bc:Nat)+1)
  (FD:0≤d.n) (hn1:d.n≤1000000000) (WU:0≤c.n) (hc1:c.n≤1000000000):
  au agQ 36 [.pointer (some ⟨b,0,none⟩),e.val] (dE b mc ma s++iO bd bh v d++lz bc v1 c) (KE b mc ma bd bh bc v v1 s e d c):=by
 have es:(s.yY e 1 ((bd:Nat)+1)).xh e 1 ((bc:Nat)+1)=s:=by rw [Sy.xi h1 h2];exact Sy.DH h3 h4
 generalize iX:(s.yY e 1 ((bd:Nat)+1)).xh e 1 ((bc:Nat)+1)=s1 at es;have key:=au.d_ (C:=cx) (args:=[.ptr 0 0,Vv]) (hp:=hp1) (aS:=MH) (ρ:=MI b mc ma bd bh bc v v1 s e d c) sU iS sV Try.func36 (by constructor<;>rfl) rfl
  (Pk agQ (fun r hs=> ∃ey,aB hs ey∧KE b mc ma bd bh bc v v1 s e d c r ey) _ _ _ _ _ _ _ _ _ _ _ _ _ _ _ _ _ _ _ _ _ _ _ _ _ _ _ _ _ _ _ _ _ _ _ _ _ _ _ _ _ _ _ _ _ _ _ _ _ _ _ _ _ _ _) (by
   unfold GM;have n6: ∀{x:List HP},dt e s.last d c=none→(x=dE b mc ma s1++iO bd bh v d++lz bc v1 c)→∀y,∃ey,aB (x++y) ey∧KE b mc ma bd bh bc v v1 s e d c (.int .i64 6) ey:=by
    intro x h hx y;subst hx;exact⟨_,aB.sub (List.sublist_append_left _ _),.inl ⟨rfl,h,by rw [es]⟩⟩
   have MJ: ∀{x:List HP} (d':Dv) (c':Cl) (w w1:V1),dt e s.last d c=some (d',c')→(x=dE b mc ma {s1 with last:=e.at_}++iO bd bh w d'++lz bc w1 c')→∀y,∃ey,aB (x++y) ey∧KE b mc ma bd bh bc v v1 s e d c (.int .i64 0) ey:=by
    intro x d' c' w w1 h hx y;subst hx;exact⟨_,aB.sub (List.sublist_append_left _ _),.inr ⟨rfl,d',c',w,w1,h,by rw [es]⟩⟩
   subst iX;refine fun _=>aK.mk (fun q1=>?_) fun q1=>?_
   ·refine fun _=>aK.mk (fun q2=>?_) fun q2=>?_
    ·refine fun _=>aK.mk (fun k1=>?_) fun k1=>?_
     ·refine aK.mk (fun q=>absurd (Or.inr rfl) q) fun _=>?_
      refine n6 ?_ rfl _;rw [dt,if_neg q1,if_neg (agE.2 (show e.bare from q2)),if_pos k1]
     ·refine aK.mk (fun k2=>?_) fun k2=>?_
      ·refine fun _=>aK.mk (fun q4=>?_) fun q4=>?_
       ·refine n6 ?_ rfl _;rw [dt,if_neg q1,if_neg (agE.2 (show e.bare from q2)),if_neg k1,if_pos k2,if_pos (show((¬d.st=0∨d.had (qE e.id)≠0)∨¬c.acc=e.da)∨¬c.ca=e.acc from q4)]
       ·intro jI;refine MJ (d.js e 2) (c) v v1 ?_ rfl _;rw [dt,if_neg q1,if_neg (agE.2 (show e.bare from q2)),if_neg k1,if_pos k2,if_neg (show¬(((¬d.st=0∨d.had (qE e.id)≠0)∨¬c.acc=e.da)∨¬c.ca=e.acc)from q4)]
      ·refine aK.mk (fun q5=>?_) fun q5=>?_
       ·refine n6 ?_ rfl _;rw [dt,if_neg q1,if_neg (agE.2 (show e.bare from q2)),if_neg k1,if_neg k2,if_pos q5]
       ·refine aK.mk (fun k3=>?_) fun k3=>?_
        ·refine fun _=>aK.mk (fun q6=>?_) fun q6=>?_
         ·refine⟨_,AY v1 c.n e.pa e.pd c.j0 c.j1 WU (by omega),?_⟩;rintro r hs ⟨q,rfl,rfl,hq⟩;refine⟨q,rfl,rfl,aK.mk (fun q7=>?_) fun q7=>?_⟩
          ·refine MJ (d.ft e) (c.takes e) v v1 ?_ rfl _;rw [dt,if_neg q1,if_neg (agE.2 (show e.bare from q2)),if_neg k1,if_neg k2,if_neg q5,if_pos k3,if_pos ⟨q6,hq.1 q7⟩]
          ·refine aK.mk (fun q8=>absurd (q6.1.symm.trans q8.1) (by decide)) fun q8=>?_
           refine n6 ?_ rfl _;rw [dt,if_neg q1,if_neg (agE.2 (show e.bare from q2)),if_neg k1,if_neg k2,if_neg q5,if_pos k3,if_neg (fun h=>q7 (hq.2 h.2)),if_neg q8]
         ·refine aK.mk (fun q8=>?_) fun q8=>?_
          ·refine fun _=>aE.mk WU fun _=>aE.mk (by omega) fun _=>fun v2=>?_
           refine MJ (d.ft e) (c.iI e) v v2 ?_ rfl _;rw [dt,if_neg q1,if_neg (agE.2 (show e.bare from q2)),if_neg k1,if_neg k2,if_neg q5,if_pos k3,if_neg (fun h=>q6 h.1),if_pos q8]
          ·refine n6 ?_ rfl _;rw [dt,if_neg q1,if_neg (agE.2 (show e.bare from q2)),if_neg k1,if_neg k2,if_neg q5,if_pos k3,if_neg (fun h=>q6 h.1),if_neg q8]
        ·refine aK.mk (fun k4=>?_) fun k4=>?_
         ·refine fun _ _=>aK.mk (fun o=>?_) fun o=>?_
          ·refine aK.mk (fun q6=>?_) fun q6=>?_
           ·refine n6 ?_ rfl _;rw [dt,if_neg q1,if_neg (agE.2 (show e.bare from q2)),if_neg k1,if_neg k2,if_neg q5,if_neg k3,if_pos k4,if_neg (by unfold pj;rw [if_pos o];exact fun h=>h q6)]
           ·refine MJ (d.active e) (c.active e) v v1 ?_ rfl _;rw [dt,if_neg q1,if_neg (agE.2 (show e.bare from q2)),if_neg k1,if_neg k2,if_neg q5,if_neg k3,if_pos k4,if_pos (by unfold pj;rw [if_pos o];exact q6)]
          ·refine aK.mk (fun q6=>?_) fun q6=>?_
           ·refine n6 ?_ rfl _;rw [dt,if_neg q1,if_neg (agE.2 (show e.bare from q2)),if_neg k1,if_neg k2,if_neg q5,if_neg k3,if_pos k4,if_neg (by unfold pj;rw [if_neg o];exact fun h=>h q6)]
           ·refine MJ (d.active e) (c.active e) v v1 ?_ rfl _;rw [dt,if_neg q1,if_neg (agE.2 (show e.bare from q2)),if_neg k1,if_neg k2,if_neg q5,if_neg k3,if_pos k4,if_pos (by unfold pj;rw [if_neg o];exact q6)]
         ·refine aK.mk (fun k5=>?_) fun k5=>?_
          ·refine fun _=>aK.mk (fun s1=>?_) fun s1=>?_
           ·skip
            refine aK.mk (fun q6=>?_) fun q6=>?_
            ·refine n6 ?_ rfl _;rw [dt,if_neg q1,if_neg (agE.2 (show e.bare from q2)),if_neg k1,if_neg k2,if_neg q5,if_neg k3,if_neg k4,if_pos k5,if_neg (by unfold nk;rw [if_pos s1];exact q6)]
            ·refine⟨?_,?_⟩
             ·refine aE.mk FD fun _=>fun _=>aE.mk (by omega) fun _=>fun v2=>?_
              refine MJ (d.ends e) (c.ends e d) v2 v1 ?_ rfl _;rw [dt,if_neg q1,if_neg (agE.2 (show e.bare from q2)),if_neg k1,if_neg k2,if_neg q5,if_neg k3,if_neg k4,if_pos k5,if_pos (by unfold nk;rw [if_pos s1];exact agE.1 q6)]
             ·refine fun _=>aE.mk FD fun _=>aE.mk (by omega) fun _=>fun v2=>?_
              refine MJ (d.ends e) (c.ends e d) v2 v1 ?_ rfl _;rw [dt,if_neg q1,if_neg (agE.2 (show e.bare from q2)),if_neg k1,if_neg k2,if_neg q5,if_neg k3,if_neg k4,if_pos k5,if_pos (by unfold nk;rw [if_pos s1];exact agE.1 q6)]
           ·refine aK.mk (fun s2=>?_) fun s2=>?_
            ·skip
             refine aK.mk (fun q6=>?_) fun q6=>?_
             ·refine n6 ?_ rfl _;rw [dt,if_neg q1,if_neg (agE.2 (show e.bare from q2)),if_neg k1,if_neg k2,if_neg q5,if_neg k3,if_neg k4,if_pos k5,if_neg (by unfold nk;rw [if_neg s1,if_pos s2];exact q6)]
             ·refine⟨?_,?_⟩
              ·refine aE.mk FD fun _=>fun _=>aE.mk (by omega) fun _=>fun v2=>?_
               refine MJ (d.ends e) (c.ends e d) v2 v1 ?_ rfl _;rw [dt,if_neg q1,if_neg (agE.2 (show e.bare from q2)),if_neg k1,if_neg k2,if_neg q5,if_neg k3,if_neg k4,if_pos k5,if_pos (by unfold nk;rw [if_neg s1,if_pos s2];exact agE.1 q6)]
              ·refine fun _=>aE.mk FD fun _=>aE.mk (by omega) fun _=>fun v2=>?_
               refine MJ (d.ends e) (c.ends e d) v2 v1 ?_ rfl _;rw [dt,if_neg q1,if_neg (agE.2 (show e.bare from q2)),if_neg k1,if_neg k2,if_neg q5,if_neg k3,if_neg k4,if_pos k5,if_pos (by unfold nk;rw [if_neg s1,if_pos s2];exact agE.1 q6)]
            ·refine aK.mk (fun s3=>?_) fun s3=>?_
             ·skip
              refine aK.mk (fun q6=>?_) fun q6=>?_
              ·refine n6 ?_ rfl _;rw [dt,if_neg q1,if_neg (agE.2 (show e.bare from q2)),if_neg k1,if_neg k2,if_neg q5,if_neg k3,if_neg k4,if_pos k5,if_neg (by unfold nk;rw [if_neg s1,if_neg s2,if_pos s3];exact q6)]
              ·refine⟨?_,?_⟩
               ·refine aE.mk FD fun _=>fun _=>aE.mk (by omega) fun _=>fun v2=>?_
                refine MJ (d.ends e) (c.ends e d) v2 v1 ?_ rfl _;rw [dt,if_neg q1,if_neg (agE.2 (show e.bare from q2)),if_neg k1,if_neg k2,if_neg q5,if_neg k3,if_neg k4,if_pos k5,if_pos (by unfold nk;rw [if_neg s1,if_neg s2,if_pos s3];exact agE.1 q6)]
               ·refine fun _=>aE.mk FD fun _=>aE.mk (by omega) fun _=>fun v2=>?_
                refine MJ (d.ends e) (c.ends e d) v2 v1 ?_ rfl _;rw [dt,if_neg q1,if_neg (agE.2 (show e.bare from q2)),if_neg k1,if_neg k2,if_neg q5,if_neg k3,if_neg k4,if_pos k5,if_pos (by unfold nk;rw [if_neg s1,if_neg s2,if_pos s3];exact agE.1 q6)]
             ·refine aK.mk (fun s4=>?_) fun s4=>?_
              ·skip
               refine aK.mk (fun q6=>?_) fun q6=>?_
               ·refine n6 ?_ rfl _;rw [dt,if_neg q1,if_neg (agE.2 (show e.bare from q2)),if_neg k1,if_neg k2,if_neg q5,if_neg k3,if_neg k4,if_pos k5,if_neg (by unfold nk;rw [if_neg s1,if_neg s2,if_neg s3,if_pos s4];exact q6)]
               ·refine⟨?_,?_⟩
                ·refine aE.mk FD fun _=>fun _=>aE.mk (by omega) fun _=>fun v2=>?_
                 refine MJ (d.ends e) (c.ends e d) v2 v1 ?_ rfl _;rw [dt,if_neg q1,if_neg (agE.2 (show e.bare from q2)),if_neg k1,if_neg k2,if_neg q5,if_neg k3,if_neg k4,if_pos k5,if_pos (by unfold nk;rw [if_neg s1,if_neg s2,if_neg s3,if_pos s4];exact agE.1 q6)]
                ·refine fun _=>aE.mk FD fun _=>aE.mk (by omega) fun _=>fun v2=>?_
                 refine MJ (d.ends e) (c.ends e d) v2 v1 ?_ rfl _;rw [dt,if_neg q1,if_neg (agE.2 (show e.bare from q2)),if_neg k1,if_neg k2,if_neg q5,if_neg k3,if_neg k4,if_pos k5,if_pos (by unfold nk;rw [if_neg s1,if_neg s2,if_neg s3,if_pos s4];exact agE.1 q6)]
              ·refine n6 ?_ rfl _;rw [dt,if_neg q1,if_neg (agE.2 (show e.bare from q2)),if_neg k1,if_neg k2,if_neg q5,if_neg k3,if_neg k4,if_pos k5,if_neg (by unfold nk;rw [if_neg s1,if_neg s2,if_neg s3,if_neg s4];exact id)]
          ·refine n6 ?_ rfl _;rw [dt,if_neg q1,if_neg (agE.2 (show e.bare from q2)),if_neg k1,if_neg k2,if_neg q5,if_neg k3,if_neg k4,if_neg k5]
    ·refine n6 ?_ rfl _;rw [dt,if_neg q1,if_pos (show¬e.bare from q2)]
   ·refine n6 ?_ rfl _;rw [dt,if_pos (agE.1 q1)])
 have pre:hp1.map (Ck.den (MI b mc ma bd bh bc v v1 s e d c))=dE b mc ma ((s.yY e 1 ((bd:Nat)+1)).xh e 1 ((bc:Nat)+1))++iO bd bh v d++lz bc v1 c:=rfl;rw [pre,iX,es]at key;exact key.post fun _ hs ⟨ey,h1,h2⟩=>⟨ey,aB.trans (aB.sub (List.take_sublist 8 hs)) h1,h2⟩
open Go.RX Go.Proofs
structure DE where
 k:Nat
 b:Nat
 h:Nat
 v:V1
 d:Dv
structure CE where
 k:Nat
 b:Nat
 v:V1
 c:Cl
def DE.eN(x:DE):List HP:=iO x.b x.h x.v x.d
def CE.eN(y:CE):List HP:=lz y.b y.v y.c
structure Sys where
 b:Nat
 mc:Nat
 ma:Nat
 s:Sy
 ds:List DE
 cs:List CE
def Sys.eN(σ:Sys):List HP:=dE σ.b σ.mc σ.ma σ.s++(σ.ds.flatMap DE.eN++σ.cs.flatMap CE.eN)
structure Sys.Wf (σ:Sys):Prop where
 d1: ∀x∈σ.ds,σ.s.vH x.k=1∧σ.s.vI x.k=(x.b:Nat)+1
 d0: ∀k,(∀x∈σ.ds,x.k≠k)→σ.s.vH k=0∧σ.s.vI k=0
 c1: ∀y∈σ.cs,σ.s.xe y.k=1∧σ.s.xg y.k=(y.b:Nat)+1
 c0: ∀k,(∀y∈σ.cs,y.k≠k)→σ.s.xe k=0∧σ.s.xg k=0
 nd:σ.ds.Pairwise fun x y=>x.k≠y.k
 nc:σ.cs.Pairwise fun x y=>x.k≠y.k
theorem xj(σ:Sys): ∀h∈σ.eN,h.wr=true:=by
 intro h hh;simp only [Sys.eN,List.mem_append,List.mem_flatMap]at hh;rcases hh with hh | ⟨x,_,hh⟩ | ⟨y,_,hh⟩
 ·simp only [dE,List.mem_cons,List.not_mem_nil,or_false]at hh;rcases hh with rfl | rfl | rfl<;>rfl
 ·simp only [DE.eN,iO,List.mem_cons,List.not_mem_nil,or_false]at hh;rcases hh with rfl | rfl | rfl<;>rfl
 ·simp only [CE.eN,lz,List.mem_cons,List.not_mem_nil,or_false]at hh;rcases hh with rfl | rfl<;>rfl
inductive Steps (σ:Sys) (e:Ev):Sys→Prop where
 | new (l1 l2:List DE) (x:DE) (d':Dv) (bc:Nat) (v1:V1) (hd:σ.ds=l1++x::l2) (hk:x.k=oQ e.da e.dd) (hc: ∀y∈σ.cs,y.k≠qE e.id) (hs:np e σ.s.dv σ.s.last x.d=some d'):
   Steps σ e {σ with s:={σ.s.xh e 1 ((bc:Nat)+1)with last:=e.at_},ds:=l1++{x with d:=d'}::l2,cs:=⟨qE e.id,bc,v1,Cl.new e⟩::σ.cs}
 | old (l1 l2:List DE) (x:DE) (m1 m2:List CE) (y:CE) (d':Dv) (c':Cl) (w w1:V1) (hd:σ.ds=l1++x::l2) (hk:x.k=oQ e.da e.dd) (hc:σ.cs=m1++y::m2) (hy:y.k=qE e.id) (hs:dt e σ.s.last x.d y.c=some (d',c')):
   Steps σ e {σ with s:={σ.s with last:=e.at_},ds:=l1++{x with v:=w,d:=d'}::l2,cs:=m1++{y with v:=w1,c:=c'}::m2}
inductive KF (σ:Sys) (e:Ev):Prop where
 | device (h: ∀x∈σ.ds,x.k≠oQ e.da e.dd)
 | new (x:DE) (hx:x∈σ.ds) (hk:x.k=oQ e.da e.dd) (hc: ∀y∈σ.cs,y.k≠qE e.id) (hs:np e σ.s.dv σ.s.last x.d=none)
 | old (x:DE) (hx:x∈σ.ds) (hk:x.k=oQ e.da e.dd) (y:CE) (hc:y∈σ.cs) (hy:y.k=qE e.id) (hs:dt e σ.s.last x.d y.c=none)
theorem EP{b mc ma:Nat}{s:Sy}{l1 l2:List DE}{x:DE}{cs:List CE}:
  (Sys.eN ⟨b,mc,ma,s,l1++x::l2,cs⟩).Perm ((dE b mc ma s++x.eN)++(l1.flatMap DE.eN++l2.flatMap DE.eN++cs.flatMap CE.eN)):=by
 simp only [Sys.eN,List.flatMap_append,List.flatMap_cons,ahf];exact(List.perm_append_comm_assoc _ _ _).append_left _
theorem vJ{b mc ma:Nat}{s:Sy}{l1 l2:List DE}{x:DE}{m1 m2:List CE}{y:CE}:
  (Sys.eN ⟨b,mc,ma,s,l1++x::l2,m1++y::m2⟩).Perm ((dE b mc ma s++x.eN++y.eN)++(l1.flatMap DE.eN++l2.flatMap DE.eN++(m1.flatMap CE.eN++m2.flatMap CE.eN))):=by
 refine EP.trans ?_;simp only [List.flatMap_append,List.flatMap_cons,ahf];refine List.Perm.append_left _ (List.Perm.append_left _ ?_);have:(l1.flatMap DE.eN++(l2.flatMap DE.eN++(m1.flatMap CE.eN++(y.eN++m2.flatMap CE.eN))))=(l1.flatMap DE.eN++l2.flatMap DE.eN++m1.flatMap CE.eN)++(y.eN++m2.flatMap CE.eN):=by simp only [ahf]
 rw [this];refine(List.perm_append_comm_assoc _ _ _).trans ?_;simp only [ahf];exact List.Perm.refl _
theorem SH{b mc ma:Nat}{s:Sy}{l1 l2:List DE}{x:DE}{cs:List CE}{y:CE}:
  (Sys.eN ⟨b,mc,ma,s,l1++x::l2,y::cs⟩).Perm ((dE b mc ma s++x.eN++y.eN)++(l1.flatMap DE.eN++l2.flatMap DE.eN++cs.flatMap CE.eN)):=by
 have:=vJ (b:=b) (mc:=mc) (ma:=ma) (s:=s) (l1:=l1) (l2:=l2) (x:=x) (m1:=[]) (m2:=cs) (y:=y);simpa using this
theorem Po(σ:Sys)(wf:σ.Wf)(e:Ev)(hn: ∀x∈σ.ds,x.k=oQ e.da e.dd→0≤x.d.n∧x.d.n≤1000000000)(hc: ∀y∈σ.cs,y.k=qE e.id→0≤y.c.n∧y.c.n≤1000000000)(ha:0≤e.acc)(hb:e.acc<256):
  au agQ 36 [.pointer (some ⟨σ.b,0,none⟩),e.val] σ.eN
   (fun r hs=>(r= .int .i64 6∧hs=σ.eN∧KF σ e)∨(r= .int .i64 0∧∃nj,Steps σ e nj∧hs=nj.eN)):=by
 obtain⟨b,mc,ma,s,ds,cs⟩:=σ;by_cases hx: ∃x∈ds,x.k=oQ e.da e.dd
 ·obtain⟨x,hx,hk⟩:=hx;have YJ:=hn x hx hk;obtain⟨q1,q2⟩:=wf.d1 x hx;simp only [hk]at q1 q2;obtain⟨l1,l2,IJ⟩:=List.append_of_mem hx;by_cases hy: ∃y∈cs,y.k=qE e.id
  ·obtain⟨y,hy,Ru⟩:=hy;have hyn:=hc y hy Ru;obtain⟨q3,q4⟩:=wf.c1 y hy;simp only [Ru]at q3 q4;obtain⟨m1,m2,l6⟩:=List.append_of_mem hy;subst IJ;subst l6;have h:=(GP b mc ma x.b x.h y.b x.v y.v s e x.d y.c q1 q2 q3 q4 YJ.1 YJ.2 hyn.1 hyn.2).frame (l1.flatMap DE.eN++l2.flatMap DE.eN++(m1.flatMap CE.eN++m2.flatMap CE.eN));refine(h.pre (aB.perm vJ)).post ?_;rintro r hs ⟨qG,rfl,(⟨rfl,q5,rfl⟩ | ⟨rfl,d',c',w,w1,q5,rfl⟩)⟩
   ·exact⟨_,aB.perm vJ.symm,.inl ⟨rfl,rfl,.old x hx hk y hy Ru q5⟩⟩
   ·exact⟨_,aB.perm (vJ (x:={x with v:=w,d:=d'}) (y:={y with v:=w1,c:=c'})).symm,.inr ⟨rfl,_,.old l1 l2 x m1 m2 y d' c' w w1 rfl hk rfl Ru q5,rfl⟩⟩
  ·have Pp: ∀y∈cs,y.k≠qE e.id:=fun y h1 h2=>hy ⟨y,h1,h2⟩
   obtain⟨q3,q4⟩:=wf.c0 _ Pp;subst IJ;have h:=(GO b mc ma x.b x.h x.v s e x.d q1 q2 q3 q4 ha hb).frame (l1.flatMap DE.eN++l2.flatMap DE.eN++cs.flatMap CE.eN);refine(h.pre (aB.perm EP)).post ?_;rintro r hs ⟨qG,rfl,(⟨rfl,q5,rfl⟩ | ⟨rfl,d',bc,v1,q5,rfl⟩)⟩
   ·exact⟨_,aB.perm EP.symm,.inl ⟨rfl,rfl,.new x hx hk Pp q5⟩⟩
   ·exact⟨_,aB.perm (SH (x:={x with d:=d'}) (y:=⟨qE e.id,bc,v1,Cl.new e⟩)).symm,.inr ⟨rfl,_,.new l1 l2 x d' bc v1 rfl hk Pp q5,rfl⟩⟩
 ·have H3: ∀x∈ds,x.k≠oQ e.da e.dd:=fun x h1 h2=>hx ⟨x,h1,h2⟩
  obtain⟨q1,q2⟩:=wf.d0 _ H3;have h:=(GN b mc ma s e q1 q2).frame (ds.flatMap DE.eN++cs.flatMap CE.eN);refine h.post ?_;rintro r hs ⟨qG,rfl,rfl,rfl⟩;exact⟨_,aB.refl _,.inl ⟨rfl,rfl,.device H3⟩⟩
end Go.RX.So

namespace Go.RX.Df
open Go.RX Go.Proofs
noncomputable def cx:Ctx:={T:=TT,FT:=FT,loops:=Df.loops,dc:=dc}
abbrev s4{α:Type}(i:Nat)(a b c d:α):α:=match i with
 | 0=>a
 | 1=>b
 | 2=>c
 | _=>d
end Go.RX.Df

namespace Go.RX.Db
open Go.RX Go.Proofs
noncomputable def cx:Ctx:={T:=TT,FT:=FT,dc:=dc}
open Go.RX Go.Proofs
set_option maxRecDepth 100000
def KG(_:Program)(aq:Value→List HP→Prop)(x0 x1 x2 x3 x4 x5 x6 x7 x8 x9 aO aQ aM aR aY _ _ _ _ _ _ _ _ _ _ _ _ _ _ _ _ _ _ _ _ _ _ _ _ _:Int)(A0 A1 A2 A3 A4 _ _ _ _ _:Nat→Int)(_ b1 b2:Nat)(p0 p1 _:HP):Prop:=
 ∀b3 b4:Nat,aK (x2=0) (
 aq (.tuple #[.sg 16 (fun _=>0),.dv 0 0,.bool false]) [Mw b1 x0 x1 A0 b2 x2 A1 (!(x3==0)) x4 x5 x6 A2 A3 A4 (aD x7) (aD x8) x9 aO aQ aM aR aY,p0,p1,ao b3 true (agw (ak .u8 16 (fun _=>0)) ([])),Dw b4 0 0]) (
 aq (.tuple #[.sg 16 A1,.dv x5 x6,.bool (!(x3==0))]) [Mw b1 x0 x1 A0 b2 x2 A1 (!(x3==0)) x4 x5 x6 A2 A3 A4 (aD x7) (aD x8) x9 aO aQ aM aR aY,p0,p1,ao b3 true (agw (ak .u8 16 A1) ([])),Dw b4 x5 x6])
theorem SI(aq:Value→List HP→Prop)(x0 x1 x2 x3 x4 x5 x6 x7 x8 x9 aO aQ aM aR aY bV cN cY cQ cP aX bz bx bM bH bL bX bZ bS fU cE cR jY gq gj fV iM fm nX nD:Int)(A0 A1 A2 A3 A4 A5 A6 A7 A8 A9:Nat→Int)(b0 b1 b2:Nat)(p0 p1 p2:HP)(h:KG agQ aq x0 x1 x2 x3 x4 x5 x6 x7 x8 x9 aO aQ aM aR aY bV cN cY cQ cP aX bz bx bM bH bL bX bZ bS fU cE cR jY gq gj fV iM fm nX nD A0 A1 A2 A3 A4 A5 A6 A7 A8 A9 b0 b1 b2 p0 p1 p2):au agQ 57 [.pp b1] [Mw b1 x0 x1 A0 b2 x2 A1 (!(x3==0)) x4 x5 x6 A2 A3 A4 (aD x7) (aD x8) x9 aO aQ aM aR aY,p0,p1] aq:=
 um (C:=cx) [.ptr 1 0] [.row 1 true [.int .u8 (.var 0),.int .u8 (.var 1),.a_ .u8 8 (.aw 0),.ptr 2 0,.int .u8 (.var 2),.a_ .u8 16 (.aw 1),.bool (BE.nz (.var 3)),.int .u8 (.var 4),.int .u8 (.var 5),.int .u8 (.var 6),.a_ .u8 32 (.aw 2),.a_ .u8 32 (.aw 3),.a_ .u8 32 (.aw 4),.dh (.var 7),.dh (.var 8),.int .u64 (.var 9),.int .u64 (.var 10),.int .u64 (.var 11),.int .u64 (.var 12),.int .u64 (.var 13),.int .u32 (.var 14)],.abs 0,.abs 1] ⟨3,0,40,10,0,3,0⟩ ⟨[x0,x1,x2,x3,x4,x5,x6,x7,x8,x9,aO,aQ,aM,aR,aY,bV,cN,cY,cQ,cP,aX,bz,bx,bM,bH,bL,bX,bZ,bS,fU,cE,cR,jY,gq,gj,fV,iM,fm,nX,nD],[A0,A1,A2,A3,A4,A5,A6,A7,A8,A9],[],[b0,b1,b2],[],[],[p0,p1,p2],[]⟩ Try.func57 (by kernel_rfl) h
def rB(_:Program)(aq:Value→List HP→Prop)(x0 x1:Int):Prop:=
 ∀b0 b1 b2 b3:Nat,aq (.pp b3) [Dw b0 x0 x1,ao b1 true ([.int .u8 2,.int .u8 2,.int .u8 0,.int .u8 0,.int .u8 0,.int .u8 0,.int .u8 0,.int .u8 0]),ao b2 true ([.slice none 0 0,.int .i64 256]),ao b3 true (.int .u8 x0::(.int .u8 x1::(.int .u8 2::(.int .u8 2::(.int .u8 0::(.int .u8 0::(.int .u8 0::(.int .u8 0::(.int .u8 0::(.int .u8 0::(.pp b2::(.int .u8 0::(agw (ak .u8 16 (fun _=>0)) (.bool false::(.int .u8 0::(.int .u8 0::(.int .u8 0::(agw (ak .u8 32 (fun _=>0)) (agw (ak .u8 32 (fun _=>0)) (agw (ak .u8 32 (fun _=>0)) ([.pointer none,.pointer none,.int .u64 0,.int .u64 0,.int .u64 0,.int .u64 0,.int .u64 0,.int .u32 0])))))))))))))))))))))]
theorem VL(aq:Value→List HP→Prop)(x0 x1:Int)(h:rB agQ aq x0 x1):au agQ 47 [.dv x0 x1,.agg #[.int .u8 2,.int .u8 2,.int .u8 0,.int .u8 0,.int .u8 0,.int .u8 0,.int .u8 0,.int .u8 0]] [] aq:=
 um (C:=cx) [.agg [.int .u8 (.var 0),.int .u8 (.var 1)],.agg [.int .u8 (.lit 2),.int .u8 (.lit 2),.int .u8 (.lit 0),.int .u8 (.lit 0),.int .u8 (.lit 0),.int .u8 (.lit 0),.int .u8 (.lit 0),.int .u8 (.lit 0)]] [] ⟨0,0,2,0,0,0,0⟩ ⟨[x0,x1],[],[],[],[],[],[],[]⟩ Try.func47 (by kernel_rfl) h
end Go.RX.Db
