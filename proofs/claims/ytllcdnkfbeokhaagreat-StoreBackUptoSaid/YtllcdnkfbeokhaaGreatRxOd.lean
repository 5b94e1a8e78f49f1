/- Executor. -/
import Derived.Test.YtllcdnkfbeokhaaGreatRxOc
open Go.Builtin renaming append_ → auP
open Go.Result renaming andThen_ok → aut
open Go.Sem renaming run_bind → auC, run_pure → auI
open Int renaming toNat → ag, toNat_natCast → auD
open List renaming eq_nil_of_length_eq_zero → auH, mem_cons_of_mem → auw
open Option renaming getD_some → au8, map_eq_some_iff → aus
open Option.some renaming injEq → auq
namespace Go.RX
section
variable {P:Program} {ρ:Env} {w:World} {look:Nat→Option SV} {bH:Operand→Value} {hp:List Ck} {S:Nat→Nat→Prop} {nb nv:Nat} {T:List TI}
theorem Dv{t s n:Nat}{v:Value}{cs vs:List Value}{S:Nat→Prop}(h:(aB true t s v n cs).p w S)(c:Nat)(hl:c+vs.length≤cs.length)
  (h1: ∀u∈vs,u.oneCell'=true) (a:Addr) (ha:0<vs.length→fS v c= .pointer (some a)):
  ∃w',(storeCells a vs).run P w= .ok () w'∧iP w w'∧w'.heap.size=w.heap.size∧
   (∀k,¬S k→w'.heap[k]? =w.heap[k]?)∧(aB true t s v n (cs.take c++vs++cs.drop (c+vs.length))).p w' S∧(vs=[]→w'=w):=by
 cases vs with
 | nil=>
  refine⟨w,rfl,iP.refl w,rfl,fun _ _=>rfl,?_,fun _=>rfl⟩;simpa using h
 | cons u r=>
  obtain⟨g,o,w',g1,g2,g3,g4,g5,g6,g7⟩:=CR (P:=P) h c hl (by simp) h1;have:=ha (by simp);rw [g1]at this;cases this;exact⟨w',g3,g4,g5,fun k hk=>g6 k (fun e=>hk (e▸g2)),g7,by simp⟩
theorem yD{x:Value}{m s:Nat}{news:List Value}(h:World.yC w x m news)(hl:news.length=m*s):
  (Builtin.lenOf x).run P w= .ok m w∧∀k,k≤m→(Builtin.firstCells s k x).run P w= .ok (news.take (k*s)).toArray w:=by
 obtain⟨a,c,rfl,kI,hr⟩:=h;refine⟨rfl,fun k hk=>?_⟩;cases a with
 | none=>
  have hm:=kI rfl;subst hm;have:news=[]:=auH (by simpa using hl);subst this;simp [Builtin.firstCells]
 | some a=>
  have hks:k*s≤m*s:=Nat.mul_le_mul_right _ hk;have:=run_loadCells_list (P:=P) w a (news.take (k*s)) (fun j v hv=>by
   rw [List.getElem?_take]at hv;split at hv
   ·exact hr a rfl j v hv
   ·cases hv)
  rw [List.length_take,hl,Nat.min_eq_left hks]at this;simpa [Builtin.firstCells] using this
theorem oR(t ty e:TypeId)(i:TypeInfo)(z:Value)(size bytes:Nat)(ht:P.underlying t=some (.slice e))(hi:P.info? e=some i)(hz:i.zero=some z)
  (eZ:i.size=size) (wG:i.bytes=bytes) (qJ:z.cells.size=size) (gx:0<size)
  (v:Value) (n:Nat) (xs:List Value) (du:w.jF e size v n xs) (y:Value) (m:Nat) (news:List Value) (hy:World.yC w y m news) (hl:news.length=m*size)
  (h1: ∀u∈news,u.oneCell'=true) (TP:n+m≤maxLen) (p9:(n+m)*bytes≤140737488355328):
  ∃v' w',(auP #[t,t] ty #[v,y]).run P w= .ok v' w'∧w'.jF e size v' (n+m) (xs++news)∧w.grownBy w' v.ownBlock∧
   (v'.ownBlock=v.ownBlock∨v'.ownBlock=some w.heap.size):=by
 obtain⟨a,c,rfl,kI,hr⟩:=hy;cases a with
 | some a=>
  exact oP (P:=P) (w:=w) t ty e i z size bytes ht hi hz eZ wG qJ gx v n xs du a m c news hl (hr a rfl) h1 TP p9
 | none=>
  have hm:=kI rfl;subst hm;have:news=[]:=auH (by simpa using hl);subst this;refine⟨v,w,?_,by simpa using du,⟨rfl,rfl,rfl,Nat.le_refl _,fun _ _ _=>rfl⟩,.inl rfl⟩;rcases du.2 with⟨rfl,rfl⟩ | ⟨g,o,cap,cur,rfl,_,Fp,_⟩
  ·simp [auP,run_underlying ht,sizeOf,typeInfo,hi,Builtin.lenOf,Builtin.firstCells]
  ·simp [auP,run_underlying ht,sizeOf,typeInfo,hi,Builtin.lenOf,Builtin.firstCells,Fp,storeCells]
theorem BL(t ty e:TypeId)(i:TypeInfo)(ht:P.underlying t=some (.slice e))(hi:P.info? e=some i)(a:Option Addr)(N C:Nat)(y:Value)(m:Nat)(news:List Value)
  (hy:World.yC w y m news) (hl:news.length=m*i.size) (rM:N+m≤C) {w':World} (hs: ∀ad,a=some ad→(storeCells (ad.add (N*i.size)) news).run P w= .ok () w') (hn:a=none→w'=w):
  (auP #[t,t] ty #[.slice a N C,y]).run P w= .ok (.slice a (N+m) C) w':=by
 obtain⟨q1,q2⟩:=yD (P:=P) hy hl;have q2:=q2 m (Nat.le_refl _);rw [List.take_of_length_le (by omega)]at q2;cases a with
 | none=>
  have:=hn rfl;subst this;simp [auP,run_underlying ht,sizeOf,typeInfo,hi,q1,q2,rM]
 | some ad=>
  have:=hs ad rfl;simp [auP,run_underlying ht,sizeOf,typeInfo,hi,q1,q2,rM,this]
theorem yE{t s:Nat}{v x:Value}{n:E}{p:Part}{cs:List Value}(h:nA ρ s v x n p)(hl:0≤p.len.den ρ 0)
  (hv:w.jF t s v (n.den ρ 0).toNat cs):w.jF t s x (p.len.den ρ 0).toNat ((cs.drop ((p.lo.den ρ 0).toNat*s)).take ((p.len.den ρ 0).toNat*s))∧x.ownBlock=v.ownBlock:=by
 have hle:(p.lo.den ρ 0).toNat+(p.len.den ρ 0).toNat≤(n.den ρ 0).toNat:=by
  have h1:=h.lo;have h2:=h.hi;clear hv h;omega
 obtain⟨h1,h2,h3,a,c,k,rfl,hc,rfl,hk⟩:=h;obtain⟨hlen,hr⟩:=hv;have afy:=Nat.mul_le_mul_right s hle;rw [Nat.add_mul]at afy;have key: ∀(A B C:Nat),B+A≤C→min A (C - B)=A:=by intro A B C h;omega
 refine⟨⟨by rw [List.length_take,List.length_drop,hlen];exact key _ _ _ afy,?_⟩,by cases a<;>simp [Value.ownBlock,Addr.add];try (split<;>rfl)⟩;rcases hr with⟨he,hz⟩ | ⟨g,o,cap,cur,he,hg,Fp,Ur,nU,CO⟩
 ·left;simp only [Value.slice.injEq]at he;obtain⟨rfl,_,rfl⟩:=he;have h0:(p.len.den ρ 0).toNat=0:=by omega
  refine⟨?_,h0⟩;rw [h0];simp only [Option.map_none,Value.slice.injEq,true_and];cases hm:p.mx with
  | none=>simp
  | some m=>
   have:=(h3 (m.den ρ 0) (by rw [hm];rfl)).2;simp only [Option.map_some,au8];omega
 ·right;simp only [Value.slice.injEq]at he;obtain⟨rfl,_,rfl⟩:=he;simp only [Option.map_some,fV];have Us:((p.mx.map fun m=>m.den ρ 0).map ag).getD c≤c:=by
   cases hm:p.mx with
   | none=>exact Nat.le_refl _
   | some m=>
    have:=(h3 (m.den ρ 0) (by rw [hm];rfl)).2;simp only [Option.map_some,au8];omega
  have zb:(p.lo.den ρ 0).toNat+(p.len.den ρ 0).toNat≤((p.mx.map fun m=>m.den ρ 0).map ag).getD c:=by
   cases hm:p.mx with
   | none=>simp only [Option.map_none,Option.getD_none];omega
   | some m=>
    have:=(h3 (m.den ρ 0) (by rw [hm];rfl)).1;simp only [Option.map_some,au8];omega
  obtain⟨C,hC⟩: ∃C,C=((p.mx.map fun m=>m.den ρ 0).map ag).getD c:=⟨_,rfl⟩;rw [←hC]at hk Us zb ⊢;have q1:(p.len.den ρ 0).toNat≤C - (p.lo.den ρ 0).toNat:=Nat.le_sub_of_add_le (by rw [Nat.add_comm];exact zb);have q2:C - (p.lo.den ρ 0).toNat≤maxLen:=Nat.le_trans (Nat.sub_le _ _) (Nat.le_trans Us Ur);refine⟨g,o+k,C - (p.lo.den ρ 0).toNat,cur,rfl,hg,q1,q2,fun t_=>?_,?_⟩
  ·have dE:=hk (.inl (by omega));have:=nU (by omega);have e1:(C - (p.lo.den ρ 0).toNat)*s+(p.lo.den ρ 0).toNat*s=C*s:=by rw [←Nat.add_mul];congr 1;omega
   have e2:C*s≤c*s:=Nat.mul_le_mul_right _ Us;omega
  ·by_cases h0:(p.len.den ρ 0).toNat=0
   ·rw [h0,Nat.zero_mul,List.take_zero,List.take_zero]
   ·have dE:=hk (.inl (by omega));rw [←CO,List.drop_take,List.take_take,List.drop_drop,dE,Nat.min_eq_left (by omega)]
theorem ji{n:E}{bytes:Nat}(h:(qC n bytes).prop ρ)(h0:0≤n.den ρ 0):
  (n.den ρ 0).toNat*bytes≤140737488355328∧(n.den ρ 0).toNat≤140737488355328:=by
 unfold qC at h;have h:=of_decide_eq_true (iX ρ _ _▸(BE.bQ ρ _).2 h);rw [iA]at h;simp only [E.den]at h;obtain⟨k,hk⟩:=Int.eq_ofNat_of_zero_le h0;rw [hk]at h ⊢;rw [←Int.natCast_mul]at h;have h:k*max 1 bytes≤140737488355328:=by omega
 have h2:k*bytes≤k*max 1 bytes:=Nat.mul_le_mul_left _ (Nat.le_max_right _ _);have h3:k*1≤k*max 1 bytes:=Nat.mul_le_mul_left _ (Nat.le_max_left _ _);simp only [auD];omega
theorem sy(n L:Nat)(aA:List bP)(h:L≤n):(aG ρ n aA).take (L*b_ aA)=aG ρ L aA:=by
 have:=wu (dQ ρ aA) n 0 L (by omega);rw [Nat.zero_mul,List.drop_zero]at this;rw [cT,this,cT];exact dr fun i _=>by rw [Nat.zero_add]
theorem xJ(hT:bB P T=true){ts:TypeId}{tt:TI}(gD:aU T ts=some tt){x y:SV}{res:iC}(h:uH T hp nv tt.k x y=some res)
  (db:Reads hp ρ w S res.rd) (cd: ∀b∈res.vcs,b.prop ρ) (ty:TypeId):
  Did P ρ w hp S nb nv ((do pure (.value (←auP #[ts,ts] ty #[x.val ρ,y.val ρ])):Sem Next).run P w) res:=by
 unfold uH at h;split at h
 ·rename_i t hk;split at h
  ·rename_i te jf;obtain⟨rfl,qg⟩:=aC hT gD;obtain⟨rfl,dc⟩:=aC hT jf;have dE:=qg.kind;rw [hk]at dE;have hu:=bK dE;obtain⟨i,hi,gx,wG,z,hz,hc⟩:=dc.info;have qJ:z.cells.size=te.size:=by rw [←Array.length_toList,←hc ρ,bu,dc.Cf]
   split at h
   ·rename_i sc jM;split at h
    ·cases h
    ·rename_i t_;have t_:0<te.size:=by omega
     split at h
     ·cases h;simp only at cd db;obtain⟨v1,v3⟩:=bA cd;obtain⟨v1,v2⟩:=bA v1;have v2:=bf v2;simp only [E.den]at v2;obtain⟨b1,b2⟩:=ji (bytes:=te.bytes) (v3 _ (by simp)) v2;obtain⟨_,s2,s3⟩:=gG jM db v1 v2;obtain⟨v',w',r1,r2,r3,r5⟩:=oR (P:=P) tt.t ty te.t i z te.size te.bytes hu hi hz gx wG qJ t_ (.slice none 0 0) 0 [] (np w te.t te.size)
       _ _ _ s3 (by rw [eh,s2]) (qh _ _) (by unfold maxLen;omega) (by rw [Nat.zero_add];exact b1)
      refine⟨te.t,te.size,_,sc.aA,v',w',fun k=>v'.ownBlock=some k,rfl,rfl,by simp only [SV.val,auC,r1,aut,auI],?_,⟨r3.os,r3.tape,r3.output,r3.size⟩,fun k hk=>r3.block k hk (by simp [Value.ownBlock]),⟨?_,fun k=>⟨fun h=>⟨h,.inl rfl⟩,fun h=>h.1⟩⟩,?_⟩
      ·rcases r2.2 with⟨rfl,_⟩ | ⟨g,o,cap,cur,rfl,_⟩<;>rfl
      ·simp only [if_true];simpa using r2
      ·intro k hk;rcases r5 with h | h
       ·rw [hk]at h;cases h
       ·rw [hk]at h;cases h;exact⟨Nat.le_refl _,jr r2 hk⟩
     ·rename_i b ix s n m;split at h
      ·rename_i x q hx hq;split at h
       ·rename_i hc;obtain⟨hxn,rfl,rfl⟩:=hc;rw [aus]at h;obtain⟨aS,fu,rfl⟩:=h;simp only at cd db;obtain⟨v1,v4⟩:=bA cd;obtain⟨v1,v3⟩:=bA v1;obtain⟨v1,v2⟩:=bA v1;have v3:=bf v3;simp only [E.den]at v3;have hqn:sc.n.den ρ 0=((q+1:Nat):Int):=bZ (ρ:=ρ) hq;obtain⟨_,x2,x3⟩:=gG (te:=te) hx (fun j hj=>db j (List.mem_append_left _ hj)) v1 (by rw [hxn];exact v3);obtain⟨_,s2,s3⟩:=gG (te:=te) jM (fun j hj=>db j (List.mem_append_right _ hj)) v2 (by omega);rw [hxn]at x3;have wV:(dP n sc.n).den ρ 0=n.den ρ 0+sc.n.den ρ 0:=bG ..;obtain⟨b1,b2⟩:=ji (n:=dP n sc.n) (bytes:=te.bytes) (v4 _ (by simp)) (by rw [wV];omega);have nB:((dP n sc.n).den ρ 0).toNat=(n.den ρ 0).toNat+(sc.n.den ρ 0).toNat:=by rw [wV];omega
        rw [nB]at b1 b2;obtain⟨ya,yc,hyv,afz,hyr⟩:=s3;have hya: ∃a,ya=some a:=by
         cases ya with
         | none=>have:=afz rfl;omega
         | some a=>exact⟨a,rfl⟩
        obtain⟨ya,rfl⟩:=hya;obtain⟨xa,xc,IQ,_,hxr⟩:=x3;have afA:(SV.sl b ix te.size n n).val ρ= .slice (some ⟨ρ.bv.getD b 0,(ix.den ρ 0).toNat*te.size,none⟩) (n.den ρ 0).toNat (n.den ρ 0).toNat:=rfl;rw [afA]at IQ;simp only [Value.slice.injEq]at IQ;obtain⟨Ia,_,_⟩:=IQ;obtain⟨v',w',r1,r2,r3,r5⟩:=qK (P:=P) (w:=w) tt.t ty te.t i z te.size te.bytes hu hi hz gx wG qJ ⟨ρ.bv.getD b 0,(ix.den ρ 0).toNat*te.size,none⟩ (n.den ρ 0).toNat _ (by rw [eh,x2])
         (fun j u hj=>hxr _ Ia.symm j u hj) ya (sc.n.den ρ 0).toNat yc (by omega) _ (by rw [eh,s2]) (fun j u hj=>hyr _ rfl j u hj) (by unfold maxLen;omega) b1
        have gU:aG ρ ((dP n sc.n).den ρ 0).toNat aS=aG ρ (n.den ρ 0).toNat x.aA++aG ρ (sc.n.den ρ 0).toNat sc.aA:=by
         rw [nB];obtain⟨c1,c2,c3⟩:=ij (ρ:=ρ) v3 (by omega) fu;rw [cT,iE];congr 1
         ·exact dr fun k hk=>by rw [c3,if_neg (by omega)]
         ·exact dr fun k hk=>by rw [c3,if_pos (by omega)];congr 1;omega
        refine⟨te.t,te.size,_,aS,v',w',fun k=>v'.ownBlock=some k,rfl,rfl,by rw [afA,hyv];simp only [auC,r1,aut,auI],?_,⟨r3.os,r3.tape,r3.output,r3.size⟩,fun k hk=>r3.block k hk (by simp),⟨?_,fun k=>⟨fun h=>⟨h,.inl rfl⟩,fun h=>h.1⟩⟩,?_⟩
        ·rcases r2.2 with⟨rfl,_⟩ | ⟨g,o,cap,cur,rfl,_⟩<;>rfl
        ·simp only [if_true];rw [gU,nB];exact r2
        ·intro k hk;rw [hk]at r5;cases r5;exact⟨Nat.le_refl _,jr r2 hk⟩
       ·cases h
      ·cases h
     ·split at h
      ·rename_i r hr;split at h
       ·rename_i gJ;obtain⟨ht,hs,hw,Kd⟩:=gJ;split at h
        ·split at h
         ·rename_i v lo cD s aS fu _ _ _;cases h;simp only at cd db;obtain⟨v1,v4⟩:=bA cd;obtain⟨v1,v3⟩:=bA v1;obtain⟨v1,v2⟩:=bA v1;have v3:=bf v3;have v4:=bf v4;simp only [E.den]at v3;rw [bG]at v4;have hrj:Reads hp ρ w S [r.j]:=fun j hj=>db j (by simp at hj;simp [hj])
          obtain⟨hj,_⟩:=gf hr hrj v1;have hS:=hrj r.j (by simp) _ hj;obtain⟨_,s2,s3⟩:=gG (te:=te) jM (fun j hj=>db j (auw _ hj)) v2 v3;have hrv:r.v=v∧r.s=s∧r.p=⟨dP (.lit 0) lo,tU cD lo,none⟩∧r.vcs=(oh r.n ⟨.lit 0,r.n,none⟩ ⟨lo,cD,none⟩).2++[]:=by
           unfold ic at hr;simp only at hr;split at hr
           ·split at hr
            ·rename_i hss;cases hr;exact⟨rfl,hss,rfl,rfl⟩
            ·cases hr
           ·cases hr
          obtain⟨rfl,rfl,nh,alT⟩:=hrv;have v1:=alT▸v1;rw [List.append_nil]at v1;obtain⟨_,k1,k2,_,a,N,C,hv,hN,hC,_⟩:=(nA.whole (ρ:=ρ) (s:=r.s) (n:=r.n) (pA hS)).step _ v1;have hC:=hC rfl;simp only at k1 k2 hN hC;rw [Kd]at hS;have dH:(dP r.p.lo r.p.len).den ρ 0=cD.den ρ 0:=by
           rw [nh];simp only [bG,fE,E.den];omega
          obtain⟨c1,c2,c3⟩:=ij (ρ:=ρ) (by rw [dH];omega) v3 fu;rw [dH]at c3;have P8:=BK (f:=rowAt ρ r.aA) (g:=rowAt ρ sc.aA) (h:=rowAt ρ aS) (s:=r.s) (fun i=>by rw [dQ];exact hw.symm) (r.n.den ρ 0).toNat (cD.den ρ 0).toNat (sc.n.den ρ 0).toNat
           (by omega) c3
          have uP:(aG ρ (sc.n.den ρ 0).toNat sc.aA).length=(sc.n.den ρ 0).toNat*r.s:=by rw [eh,s2,hs]
          have abC:(cD.den ρ 0).toNat*r.s+(aG ρ (sc.n.den ρ 0).toNat sc.aA).length≤(aG ρ (r.n.den ρ 0).toNat r.aA).length:=by
           rw [uP,eh,←hw,←Nat.add_mul];exact Nat.mul_le_mul_right _ (by omega)
          obtain⟨w',g1,g2,g3,g4,g5,g6⟩:=Dv (P:=P) hS ((cD.den ρ 0).toNat*r.s) abC (qh _ _) ((a.getD ⟨0,0,none⟩).add ((cD.den ρ 0).toNat*r.s)) (fun LV=>by
           rw [hv];cases a with
           | none=>
            exfalso;obtain⟨_,_,he,kI,_⟩:=(E3 hS).1;rw [hv]at he;cases he;have:=kI rfl;rw [uP]at LV;have:(sc.n.den ρ 0).toNat=0:=by omega
            rw [this,Nat.zero_mul]at LV;omega
           | some a=>rfl)
          refine⟨w',.inl ?_,⟨⟨_,hj,by rw [Kd];rfl⟩,rfl,g2,g3,g4,?_⟩⟩
          ·have iR:=BL (P:=P) (w:=w) (w':=w') tt.t ty te.t i hu hi (if C=(lo.den ρ 0).toNat then a else a.map (·.add ((lo.den ρ 0).toNat*r.s))) ((cD.den ρ 0).toNat - (lo.den ρ 0).toNat) (C - (lo.den ρ 0).toNat)
            (y.val ρ) (sc.n.den ρ 0).toNat (aG ρ (sc.n.den ρ 0).toNat sc.aA) s3 (by rw [uP,gx,hs]) (by
             have:(r.n.den ρ 0).toNat≤C:=by
              obtain⟨_,_,he,hle⟩:=pA hS;rw [hv]at he;cases he;exact hle
             omega) (fun ad had=>by
             cases a with
             | none=>simp at had
             | some a0=>
              by_cases hz0:(sc.n.den ρ 0).toNat=0
              ·have kI:aG ρ (sc.n.den ρ 0).toNat sc.aA=[]:=auH (by rw [uP,hz0,Nat.zero_mul]);rw [kI]at g6 ⊢;rw [g6 rfl];rfl
              ·have hle:(r.n.den ρ 0).toNat≤C:=by
                obtain⟨_,_,he,hle⟩:=pA hS;rw [hv]at he;cases he;exact hle
               rw [if_neg (by omega)]at had;simp only [Option.map_some,auq]at had;subst had;rw [dM,gx,←hs,←Nat.add_mul,show(lo.den ρ 0).toNat+((cD.den ρ 0).toNat - (lo.den ρ 0).toNat)=(cD.den ρ 0).toNat by omega];exact g1) (fun HO=>by
             apply g6;cases a with
             | some a0=>split at HO<;>simp at HO
             | none=>
              obtain⟨_,_,he,kI,_⟩:=(E3 hS).1;rw [hv]at he;cases he;have:=kI rfl;apply auH;rw [uP,show(sc.n.den ρ 0).toNat=0 by omega,Nat.zero_mul])
           have e1:(SV.jJ r.v [⟨lo,cD,none⟩] r.s).val ρ= .slice (if C=(lo.den ρ 0).toNat then a else a.map (·.add ((lo.den ρ 0).toNat*r.s))) ((cD.den ρ 0).toNat - (lo.den ρ 0).toNat) (C - (lo.den ρ 0).toNat):=by
            simp only [SV.val,dS,hv];rfl
           have e2:(SV.jJ r.v [⟨lo,dP cD sc.n,none⟩] r.s).val ρ= .slice (if C=(lo.den ρ 0).toNat then a else a.map (·.add ((lo.den ρ 0).toNat*r.s))) ((cD.den ρ 0).toNat - (lo.den ρ 0).toNat+(sc.n.den ρ 0).toNat) (C - (lo.den ρ 0).toNat):=by
            simp only [SV.val,dS,hv,bG];show Value.slice _ _ _=_;congr 1;omega
           simp only [auC,e1,iR,aut,auI,e2]
          ·simp only [Ck.den];rw [cT,P8];rw [uP]at g5;rw [←ht];exact g5
         ·cases h
        ·split at h
         ·rename_i rc hrc;split at h
          ·rename_i aS fu;cases h;simp only at cd db;obtain⟨v1,v5⟩:=bA cd;obtain⟨v1,v4⟩:=bA v1;obtain⟨v1,v3⟩:=bA v1;obtain⟨v1,v2⟩:=bA v1;have v3:=bf v3;have v4:=bf v4;simp only [E.den]at v3 v4;have hrj:Reads hp ρ w S [r.j]:=fun j hj=>db j (by simp at hj;simp [hj])
           obtain⟨hj,fi⟩:=gf hr hrj v1;have hS:=hrj r.j (by simp) _ hj;rw [Kd]at hS;obtain⟨_,s2,s3⟩:=gG (te:=te) jM (fun j hj=>db j (auw _ hj)) v2 v4;have wV:(dP r.p.len sc.n).den ρ 0=r.p.len.den ρ 0+sc.n.den ρ 0:=bG ..;obtain⟨b1,b2⟩:=ji (n:=dP r.p.len sc.n) (bytes:=te.bytes) (v5 _ (by simp)) (by rw [wV];omega);have nB:((dP r.p.len sc.n).den ρ 0).toNat=(r.p.len.den ρ 0).toNat+(sc.n.den ρ 0).toNat:=by rw [wV];omega
           rw [nB]at b1 b2;obtain⟨du,mw⟩:=hS;simp only [if_true]at du;obtain⟨o1,o2⟩:=yE fi v3 du;have hhi:=fi.hi;have M6:=fi.lo;obtain⟨e1,e2⟩:=kQ (ρ:=ρ) fi.lo hrc;have afB:((aG ρ (r.n.den ρ 0).toNat r.aA).drop ((r.p.lo.den ρ 0).toNat*r.s)).take ((r.p.len.den ρ 0).toNat*r.s)=aG ρ (r.p.len.den ρ 0).toNat rc:=by
            rw [cT,hw,wu (dQ ρ r.aA) _ _ _ (by omega),cT];exact dr fun i _=>(e2 i).symm
           rw [afB]at o1;obtain⟨v',w',r1,r2,r3,r5⟩:=oR (P:=P) tt.t ty te.t i z te.size te.bytes hu hi hz gx wG qJ t_ (x.val ρ) (r.p.len.den ρ 0).toNat _ (by rw [←ht,←hs];exact o1)
            _ _ _ s3 (by rw [eh,s2]) (qh _ _) (by unfold maxLen;omega) b1
           have gU:aG ρ ((dP r.p.len sc.n).den ρ 0).toNat aS=aG ρ (r.p.len.den ρ 0).toNat rc++aG ρ (sc.n.den ρ 0).toNat sc.aA:=by
            rw [nB];split at fu
            ·rename_i yP;cases fu;rw [yP];simp [E.den,aG,aM]
            ·obtain⟨c1,c2,c3⟩:=ij (ρ:=ρ) v3 v4 fu;rw [cT,iE];congr 1
             ·exact dr fun k hk=>by rw [c3,if_neg (by omega)]
             ·exact dr fun k hk=>by rw [c3,if_pos (by omega)];congr 1;omega
           refine⟨te.t,r.s,_,aS,v',w',fun k=>v'.ownBlock=some k,rfl,rfl,by simp only [auC,r1,aut,auI],?_,⟨_,hj,by rw [Kd];rfl⟩,⟨r3.os,r3.tape,r3.output,r3.size⟩,?_,⟨?_,fun k=>⟨fun h=>⟨h,.inl rfl⟩,fun h=>h.1⟩⟩,?_⟩
           ·rcases r2.2 with⟨rfl,_⟩ | ⟨g,o,cap,cur,rfl,_⟩<;>rfl
           ·intro k hk hn;refine r3.block k hk fun he=>hn ((mw k).2 ⟨?_,.inl rfl⟩)
            rw [←o2,←he]
           ·simp only [if_true];rw [gU,nB,hs];exact r2
           ·intro k hk;rcases r5 with h | h
            ·left;rw [mw k,←o2,←h];exact⟨hk,.inl rfl⟩
            ·right;rw [hk]at h;cases h;exact⟨Nat.le_refl _,jr r2 hk⟩
          ·cases h
         ·cases h
       ·cases h
      ·cases h
   ·cases h
  ·cases h
 ·cases h
end
end Go.RX
