/- Executor. -/
import Derived.Test.YtphemenngjkfbaaRxOc
open Go.Builtin renaming append_ → agR
open Go.Result renaming andThen_ok → agG
open Go.Sem renaming run_bind → agK, run_pure → ag0
open Int renaming toNat → ag
open List renaming append_nil → agL, eq_nil_of_length_eq_zero → agU, mem_cons_of_mem → agF
open Option renaming getD_some → ahe, map_eq_some_iff → agz
open Option.some renaming injEq → agy
namespace Go.RX
section
variable {P:Program} {ρ:Env} {w:World} {look:Nat→Option SV} {bQ:Operand→Value} {hp:List Ck} {S:Nat→Nat→Prop} {nb nv:Nat} {T:List TI}
theorem D5{t s n:Nat}{v:Value}{cs vs:List Value}{S:Nat→Prop}(h:(aC true t s v n cs).p w S)(c:Nat)(hl:c+vs.length≤cs.length)
  (h1: ∀u∈vs,u.oneCell'=true) (a:Addr) (ha:0<vs.length→eY v c= .pointer (some a)):
  ∃w',(storeCells a vs).run P w= .ok () w'∧gu w w'∧w'.heap.size=w.heap.size∧
   (∀k,¬S k→w'.heap[k]? =w.heap[k]?)∧(aC true t s v n (cs.take c++vs++cs.drop (c+vs.length))).p w' S∧(vs=[]→w'=w):=by
 cases vs with
 | nil=>
  refine⟨w,rfl,gu.refl w,rfl,fun _ _=>rfl,?_,fun _=>rfl⟩;simpa using h
 | cons u r=>
  obtain⟨g,o,w',g1,g2,g3,g4,g5,g6,g7⟩:=CY (P:=P) h c hl (by simp) h1;have:=ha (by simp);rw [g1]at this;cases this;exact⟨w',g3,g4,g5,fun k hk=>g6 k (fun e=>hk (e▸g2)),g7,by simp⟩
theorem yE{x:Value}{m s:Nat}{news:List Value}(h:World.yD w x m news)(hl:news.length=m*s):
  (Builtin.lenOf x).run P w= .ok m w∧∀k,k≤m→(Builtin.firstCells s k x).run P w= .ok (news.take (k*s)).toArray w:=by
 obtain⟨a,c,rfl,l7,hr⟩:=h;refine⟨rfl,fun k hk=>?_⟩;cases a with
 | none=>
  have hm:=l7 rfl;subst hm;have:news=[]:=agU (by simpa using hl);subst this;simp [Builtin.firstCells]
 | some a=>
  have Tj:k*s≤m*s:=Nat.mul_le_mul_right _ hk;have:=run_loadCells_list (P:=P) w a (news.take (k*s)) (fun j v hv=>by
   rw [List.getElem?_take]at hv;split at hv
   ·exact hr a rfl j v hv
   ·cases hv)
  rw [List.length_take,hl,Nat.min_eq_left Tj]at this;simpa [Builtin.firstCells] using this
theorem oB(t ty e:TypeId)(i:TypeInfo)(z:Value)(size bytes:Nat)(ht:P.underlying t=some (.slice e))(hi:P.info? e=some i)(hz:i.zero=some z)
  (jP:i.size=size) (wq:i.bytes=bytes) (qF:z.cells.size=size) (fx:0<size)
  (v:Value) (n:Nat) (xs:List Value) (cU:w.iK e size v n xs) (y:Value) (m:Nat) (news:List Value) (hy:World.yD w y m news) (hl:news.length=m*size)
  (h1: ∀u∈news,u.oneCell'=true) (Ri:n+m≤maxLen) (pR:(n+m)*bytes≤140737488355328):
  ∃v' w',(agR #[t,t] ty #[v,y]).run P w= .ok v' w'∧w'.iK e size v' (n+m) (xs++news)∧w.grownBy w' v.ownBlock∧
   (v'.ownBlock=v.ownBlock∨v'.ownBlock=some w.heap.size):=by
 obtain⟨a,c,rfl,l7,hr⟩:=hy;cases a with
 | some a=>
  exact oA (P:=P) (w:=w) t ty e i z size bytes ht hi hz jP wq qF fx v n xs cU a m c news hl (hr a rfl) h1 Ri pR
 | none=>
  have hm:=l7 rfl;subst hm;have:news=[]:=agU (by simpa using hl);subst this;refine⟨v,w,?_,by simpa using cU,⟨rfl,rfl,rfl,Nat.le_refl _,fun _ _ _=>rfl⟩,.inl rfl⟩;rcases cU.2 with⟨rfl,rfl⟩ | ⟨g,o,cap,cur,rfl,_,FL,_⟩
  ·simp [agR,run_underlying ht,sizeOf,typeInfo,hi,Builtin.lenOf,Builtin.firstCells]
  ·simp [agR,run_underlying ht,sizeOf,typeInfo,hi,Builtin.lenOf,Builtin.firstCells,FL,storeCells]
theorem BI(t ty e:TypeId)(i:TypeInfo)(ht:P.underlying t=some (.slice e))(hi:P.info? e=some i)(a:Option Addr)(N C:Nat)(y:Value)(m:Nat)(news:List Value)
  (hy:World.yD w y m news) (hl:news.length=m*i.size) (tZ:N+m≤C) {w':World} (hs: ∀ad,a=some ad→(storeCells (ad.add (N*i.size)) news).run P w= .ok () w') (hn:a=none→w'=w):
  (agR #[t,t] ty #[.slice a N C,y]).run P w= .ok (.slice a (N+m) C) w':=by
 obtain⟨q1,q2⟩:=yE (P:=P) hy hl;have q2:=q2 m (Nat.le_refl _);rw [List.take_of_length_le (by omega)]at q2;cases a with
 | none=>
  have:=hn rfl;subst this;simp [agR,run_underlying ht,sizeOf,typeInfo,hi,q1,q2,tZ]
 | some ad=>
  have:=hs ad rfl;simp [agR,run_underlying ht,sizeOf,typeInfo,hi,q1,q2,tZ,this]
theorem rm{t s:Nat}{v x:Value}{n:E}{p:Part}{cs:List Value}(h:mu ρ s v x n p)(hl:0≤p.len.den ρ 0)
  (hv:w.iK t s v (n.den ρ 0).toNat cs):w.iK t s x (p.len.den ρ 0).toNat ((cs.drop ((p.lo.den ρ 0).toNat*s)).take ((p.len.den ρ 0).toNat*s))∧x.ownBlock=v.ownBlock:=by
 have hle:(p.lo.den ρ 0).toNat+(p.len.den ρ 0).toNat≤(n.den ρ 0).toNat:=by
  have h1:=h.lo;have h2:=h.hi;clear hv h;omega
 obtain⟨h1,h2,h3,a,c,k,rfl,hc,rfl,hk⟩:=h;obtain⟨hlen,hr⟩:=hv;have Ze:=Nat.mul_le_mul_right s hle;rw [Nat.add_mul]at Ze;have key: ∀(A B C:Nat),B+A≤C→min A (C - B)=A:=by intro A B C h;omega
 refine⟨⟨by rw [List.length_take,List.length_drop,hlen];exact key _ _ _ Ze,?_⟩,by cases a<;>simp [Value.ownBlock,Addr.add];try (split<;>rfl)⟩;rcases hr with⟨he,hz⟩ | ⟨g,o,cap,cur,he,hg,FL,RI,l6,B0⟩
 ·left;simp only [Value.slice.injEq]at he;obtain⟨rfl,_,rfl⟩:=he;have h0:(p.len.den ρ 0).toNat=0:=by omega
  refine⟨?_,h0⟩;rw [h0];simp only [Option.map_none,Value.slice.injEq,true_and];cases hm:p.mx with
  | none=>simp
  | some m=>
   have:=(h3 (m.den ρ 0) (by rw [hm];rfl)).2;simp only [Option.map_some,ahe];omega
 ·right;simp only [Value.slice.injEq]at he;obtain⟨rfl,_,rfl⟩:=he;simp only [Option.map_some,eZ];have TO:((p.mx.map fun m=>m.den ρ 0).map ag).getD c≤c:=by
   cases hm:p.mx with
   | none=>exact Nat.le_refl _
   | some m=>
    have:=(h3 (m.den ρ 0) (by rw [hm];rfl)).2;simp only [Option.map_some,ahe];omega
  have F_:(p.lo.den ρ 0).toNat+(p.len.den ρ 0).toNat≤((p.mx.map fun m=>m.den ρ 0).map ag).getD c:=by
   cases hm:p.mx with
   | none=>simp only [Option.map_none,Option.getD_none];omega
   | some m=>
    have:=(h3 (m.den ρ 0) (by rw [hm];rfl)).1;simp only [Option.map_some,ahe];omega
  obtain⟨C,hC⟩: ∃C,C=((p.mx.map fun m=>m.den ρ 0).map ag).getD c:=⟨_,rfl⟩;rw [←hC]at hk TO F_ ⊢;have q1:(p.len.den ρ 0).toNat≤C - (p.lo.den ρ 0).toNat:=Nat.le_sub_of_add_le (by rw [Nat.add_comm];exact F_);have q2:C - (p.lo.den ρ 0).toNat≤maxLen:=Nat.le_trans (Nat.sub_le _ _) (Nat.le_trans TO RI);refine⟨g,o+k,C - (p.lo.den ρ 0).toNat,cur,rfl,hg,q1,q2,fun yN=>?_,?_⟩
  ·have dg:=hk (.inl (by omega));have:=l6 (by omega);have e1:(C - (p.lo.den ρ 0).toNat)*s+(p.lo.den ρ 0).toNat*s=C*s:=by rw [←Nat.add_mul];congr 1;omega
   have e2:C*s≤c*s:=Nat.mul_le_mul_right _ TO;omega
  ·by_cases h0:(p.len.den ρ 0).toNat=0
   ·rw [h0,Nat.zero_mul,List.take_zero,List.take_zero]
   ·have dg:=hk (.inl (by omega));rw [←B0,List.drop_take,List.take_take,List.drop_drop,dg,Nat.min_eq_left (by omega)]
theorem hJ{n:E}{bytes:Nat}(h:(qk n bytes).prop ρ)(h0:0≤n.den ρ 0):
  (n.den ρ 0).toNat*bytes≤140737488355328∧(n.den ρ 0).toNat≤140737488355328:=by
 unfold qk at h;have h:=of_decide_eq_true (iy ρ _ _▸(BE.cq ρ _).2 h);rw [gv]at h;simp only [E.den]at h;obtain⟨k,hk⟩:=Int.eq_ofNat_of_zero_le h0;rw [hk]at h ⊢;rw [←Int.natCast_mul]at h;have h:k*max 1 bytes≤140737488355328:=by omega
 have h2:k*bytes≤k*max 1 bytes:=Nat.mul_le_mul_left _ (Nat.le_max_right _ _);have h3:k*1≤k*max 1 bytes:=Nat.mul_le_mul_left _ (Nat.le_max_left _ _);simp only [Int.toNat_natCast];omega
theorem rQ(n L:Nat)(aA:List cb)(h:L≤n):(aI ρ n aA).take (L*cn aA)=aI ρ L aA:=by
 have:=wh (dH ρ aA) n 0 L (by omega);rw [Nat.zero_mul,List.drop_zero]at this;rw [cK,this,cK];exact cV fun i _=>by rw [Nat.zero_add]
theorem xG(hT:bC P T=true){ts:TypeId}{tt:TI}(fL:aW T ts=some tt){x y:SV}{res:iC}(h:uC T hp nv tt.k x y=some res)
  (dp:Reads hp ρ w S res.rd) (cu: ∀b∈res.vcs,b.prop ρ) (ty:TypeId):
  Did P ρ w hp S nb nv ((do pure (.value (←agR #[ts,ts] ty #[x.val ρ,y.val ρ])):Sem Next).run P w) res:=by
 unfold uC at h;split at h
 ·rename_i t hk;split at h
  ·rename_i te ik;obtain⟨rfl,pW⟩:=ay hT fL;obtain⟨rfl,c9⟩:=ay hT ik;have dg:=pW.kind;rw [hk]at dg;have hu:=bR dg;obtain⟨i,hi,fx,wq,z,hz,hc⟩:=c9.info;have qF:z.cells.size=te.size:=by rw [←Array.length_toList,←hc ρ,bw,c9.B6]
   split at h
   ·rename_i sc jx;split at h
    ·cases h
    ·rename_i yN;have yN:0<te.size:=by omega
     split at h
     ·cases h;simp only at cu dp;obtain⟨v1,v3⟩:=bB cu;obtain⟨v1,v2⟩:=bB v1;have v2:=bg v2;simp only [E.den]at v2;obtain⟨b1,b2⟩:=hJ (bytes:=te.bytes) (v3 _ (by simp)) v2;obtain⟨_,s2,s3⟩:=gf jx dp v1 v2;obtain⟨v',w',r1,r2,r3,r5⟩:=oB (P:=P) tt.t ty te.t i z te.size te.bytes hu hi hz fx wq qF yN (.slice none 0 0) 0 [] (kO w te.t te.size)
       _ _ _ s3 (by rw [dI,s2]) (pX _ _) (by unfold maxLen;omega) (by rw [Nat.zero_add];exact b1)
      refine⟨te.t,te.size,_,sc.aA,v',w',fun k=>v'.ownBlock=some k,rfl,rfl,by simp only [SV.val,agK,r1,agG,ag0],?_,⟨r3.os,r3.tape,r3.output,r3.size⟩,fun k hk=>r3.block k hk (by simp [Value.ownBlock]),⟨?_,fun k=>⟨fun h=>⟨h,.inl rfl⟩,fun h=>h.1⟩⟩,?_⟩
      ·rcases r2.2 with⟨rfl,_⟩ | ⟨g,o,cap,cur,rfl,_⟩<;>rfl
      ·simp only [if_true];simpa using r2
      ·intro k hk;rcases r5 with h | h
       ·rw [hk]at h;cases h
       ·rw [hk]at h;cases h;exact⟨Nat.le_refl _,iu r2 hk⟩
     ·rename_i b ix s n m;split at h
      ·rename_i x q hx hq;split at h
       ·rename_i hc;obtain⟨YJ,rfl,rfl⟩:=hc;rw [agz]at h;obtain⟨aV,eU,rfl⟩:=h;simp only at cu dp;obtain⟨v1,v4⟩:=bB cu;obtain⟨v1,v3⟩:=bB v1;obtain⟨v1,v2⟩:=bB v1;have v3:=bg v3;simp only [E.den]at v3;have Tt:sc.n.den ρ 0=((q+1:Nat):Int):=cM (ρ:=ρ) hq;obtain⟨_,x2,x3⟩:=gf (te:=te) hx (fun j hj=>dp j (List.mem_append_left _ hj)) v1 (by rw [YJ];exact v3);obtain⟨_,s2,s3⟩:=gf (te:=te) jx (fun j hj=>dp j (List.mem_append_right _ hj)) v2 (by omega);rw [YJ]at x3;have Aq:(dV n sc.n).den ρ 0=n.den ρ 0+sc.n.den ρ 0:=bN ..;obtain⟨b1,b2⟩:=hJ (n:=dV n sc.n) (bytes:=te.bytes) (v4 _ (by simp)) (by rw [Aq];omega);have m7:((dV n sc.n).den ρ 0).toNat=(n.den ρ 0).toNat+(sc.n.den ρ 0).toNat:=by rw [Aq];omega
        rw [m7]at b1 b2;obtain⟨ya,yc,hyv,Zf,hyr⟩:=s3;have hya: ∃a,ya=some a:=by
         cases ya with
         | none=>have:=Zf rfl;omega
         | some a=>exact⟨a,rfl⟩
        obtain⟨ya,rfl⟩:=hya;obtain⟨xa,xc,Iu,_,hxr⟩:=x3;have Zg:(SV.sl b ix te.size n n).val ρ= .slice (some ⟨ρ.bv.getD b 0,(ix.den ρ 0).toNat*te.size,none⟩) (n.den ρ 0).toNat (n.den ρ 0).toNat:=rfl;rw [Zg]at Iu;simp only [Value.slice.injEq]at Iu;obtain⟨Rd,_,_⟩:=Iu;obtain⟨v',w',r1,r2,r3,r5⟩:=qp (P:=P) (w:=w) tt.t ty te.t i z te.size te.bytes hu hi hz fx wq qF ⟨ρ.bv.getD b 0,(ix.den ρ 0).toNat*te.size,none⟩ (n.den ρ 0).toNat _ (by rw [dI,x2])
         (fun j u hj=>hxr _ Rd.symm j u hj) ya (sc.n.den ρ 0).toNat yc (by omega) _ (by rw [dI,s2]) (fun j u hj=>hyr _ rfl j u hj) (by unfold maxLen;omega) b1
        have fM:aI ρ ((dV n sc.n).den ρ 0).toNat aV=aI ρ (n.den ρ 0).toNat x.aA++aI ρ (sc.n.den ρ 0).toNat sc.aA:=by
         rw [m7];obtain⟨c1,c2,c3⟩:=gb (ρ:=ρ) v3 (by omega) eU;rw [cK,gx];congr 1
         ·exact cV fun k hk=>by rw [c3,if_neg (by omega)]
         ·exact cV fun k hk=>by rw [c3,if_pos (by omega)];congr 1;omega
        refine⟨te.t,te.size,_,aV,v',w',fun k=>v'.ownBlock=some k,rfl,rfl,by rw [Zg,hyv];simp only [agK,r1,agG,ag0],?_,⟨r3.os,r3.tape,r3.output,r3.size⟩,fun k hk=>r3.block k hk (by simp),⟨?_,fun k=>⟨fun h=>⟨h,.inl rfl⟩,fun h=>h.1⟩⟩,?_⟩
        ·rcases r2.2 with⟨rfl,_⟩ | ⟨g,o,cap,cur,rfl,_⟩<;>rfl
        ·simp only [if_true];rw [fM,m7];exact r2
        ·intro k hk;rw [hk]at r5;cases r5;exact⟨Nat.le_refl _,iu r2 hk⟩
       ·cases h
      ·cases h
     ·split at h
      ·rename_i r hr;split at h
       ·rename_i iH;obtain⟨ht,hs,hw,J2⟩:=iH;split at h
        ·split at h
         ·rename_i v lo oq s aV eU _ _ _;cases h;simp only at cu dp;obtain⟨v1,v4⟩:=bB cu;obtain⟨v1,v3⟩:=bB v1;obtain⟨v1,v2⟩:=bB v1;have v3:=bg v3;have v4:=bg v4;simp only [E.den]at v3;rw [bN]at v4;have WK:Reads hp ρ w S [r.j]:=fun j hj=>dp j (by simp at hj;simp [hj])
          obtain⟨hj,_⟩:=fh hr WK v1;have hS:=WK r.j (by simp) _ hj;obtain⟨_,s2,s3⟩:=gf (te:=te) jx (fun j hj=>dp j (agF _ hj)) v2 v3;have hrv:r.v=v∧r.s=s∧r.p=⟨dV (.lit 0) lo,tT oq lo,none⟩∧r.vcs=(gS r.n ⟨.lit 0,r.n,none⟩ ⟨lo,oq,none⟩).2++[]:=by
           unfold gJ at hr;simp only at hr;split at hr
           ·split at hr
            ·rename_i hss;cases hr;exact⟨rfl,hss,rfl,rfl⟩
            ·cases hr
           ·cases hr
          obtain⟨rfl,rfl,mQ,acH⟩:=hrv;have v1:=acH▸v1;rw [agL]at v1;obtain⟨_,k1,k2,_,a,N,C,hv,hN,hC,_⟩:=(mu.whole (ρ:=ρ) (s:=r.s) (n:=r.n) (mM hS)).step _ v1;have hC:=hC rfl;simp only at k1 k2 hN hC;rw [J2]at hS;have ew:(dV r.p.lo r.p.len).den ρ 0=oq.den ρ 0:=by
           rw [mQ];simp only [bN,e8,E.den];omega
          obtain⟨c1,c2,c3⟩:=gb (ρ:=ρ) (by rw [ew];omega) v3 eU;rw [ew]at c3;have Oc:=BH (f:=rowAt ρ r.aA) (g:=rowAt ρ sc.aA) (h:=rowAt ρ aV) (s:=r.s) (fun i=>by rw [dH];exact hw.symm) (r.n.den ρ 0).toNat (oq.den ρ 0).toNat (sc.n.den ρ 0).toNat
           (by omega) c3
          have uL:(aI ρ (sc.n.den ρ 0).toNat sc.aA).length=(sc.n.den ρ 0).toNat*r.s:=by rw [dI,s2,hs]
          have WL:(oq.den ρ 0).toNat*r.s+(aI ρ (sc.n.den ρ 0).toNat sc.aA).length≤(aI ρ (r.n.den ρ 0).toNat r.aA).length:=by
           rw [uL,dI,←hw,←Nat.add_mul];exact Nat.mul_le_mul_right _ (by omega)
          obtain⟨w',g1,g2,g3,g4,g5,g6⟩:=D5 (P:=P) hS ((oq.den ρ 0).toNat*r.s) WL (pX _ _) ((a.getD ⟨0,0,none⟩).add ((oq.den ρ 0).toNat*r.s)) (fun Lm=>by
           rw [hv];cases a with
           | none=>
            exfalso;obtain⟨_,_,he,l7,_⟩:=(Fk hS).1;rw [hv]at he;cases he;have:=l7 rfl;rw [uL]at Lm;have:(sc.n.den ρ 0).toNat=0:=by omega
            rw [this,Nat.zero_mul]at Lm;omega
           | some a=>rfl)
          refine⟨w',.inl ?_,⟨⟨_,hj,by rw [J2];rfl⟩,rfl,g2,g3,g4,?_⟩⟩
          ·have iL:=BI (P:=P) (w:=w) (w':=w') tt.t ty te.t i hu hi (if C=(lo.den ρ 0).toNat then a else a.map (·.add ((lo.den ρ 0).toNat*r.s))) ((oq.den ρ 0).toNat - (lo.den ρ 0).toNat) (C - (lo.den ρ 0).toNat)
            (y.val ρ) (sc.n.den ρ 0).toNat (aI ρ (sc.n.den ρ 0).toNat sc.aA) s3 (by rw [uL,fx,hs]) (by
             have:(r.n.den ρ 0).toNat≤C:=by
              obtain⟨_,_,he,hle⟩:=mM hS;rw [hv]at he;cases he;exact hle
             omega) (fun ad had=>by
             cases a with
             | none=>simp at had
             | some a0=>
              by_cases Xy:(sc.n.den ρ 0).toNat=0
              ·have l7:aI ρ (sc.n.den ρ 0).toNat sc.aA=[]:=agU (by rw [uL,Xy,Nat.zero_mul]);rw [l7]at g6 ⊢;rw [g6 rfl];rfl
              ·have hle:(r.n.den ρ 0).toNat≤C:=by
                obtain⟨_,_,he,hle⟩:=mM hS;rw [hv]at he;cases he;exact hle
               rw [if_neg (by omega)]at had;simp only [Option.map_some,agy]at had;subst had;rw [dK,fx,←hs,←Nat.add_mul,show(lo.den ρ 0).toNat+((oq.den ρ 0).toNat - (lo.den ρ 0).toNat)=(oq.den ρ 0).toNat by omega];exact g1) (fun HD=>by
             apply g6;cases a with
             | some a0=>split at HD<;>simp at HD
             | none=>
              obtain⟨_,_,he,l7,_⟩:=(Fk hS).1;rw [hv]at he;cases he;have:=l7 rfl;apply agU;rw [uL,show(sc.n.den ρ 0).toNat=0 by omega,Nat.zero_mul])
           have e1:(SV.ji r.v [⟨lo,oq,none⟩] r.s).val ρ= .slice (if C=(lo.den ρ 0).toNat then a else a.map (·.add ((lo.den ρ 0).toNat*r.s))) ((oq.den ρ 0).toNat - (lo.den ρ 0).toNat) (C - (lo.den ρ 0).toNat):=by
            simp only [SV.val,dx,hv];rfl
           have e2:(SV.ji r.v [⟨lo,dV oq sc.n,none⟩] r.s).val ρ= .slice (if C=(lo.den ρ 0).toNat then a else a.map (·.add ((lo.den ρ 0).toNat*r.s))) ((oq.den ρ 0).toNat - (lo.den ρ 0).toNat+(sc.n.den ρ 0).toNat) (C - (lo.den ρ 0).toNat):=by
            simp only [SV.val,dx,hv,bN];show Value.slice _ _ _=_;congr 1;omega
           simp only [agK,e1,iL,agG,ag0,e2]
          ·simp only [Ck.den];rw [cK,Oc];rw [uL]at g5;rw [←ht];exact g5
         ·cases h
        ·split at h
         ·rename_i rc hrc;split at h
          ·rename_i aV eU;cases h;simp only at cu dp;obtain⟨v1,v5⟩:=bB cu;obtain⟨v1,v4⟩:=bB v1;obtain⟨v1,v3⟩:=bB v1;obtain⟨v1,v2⟩:=bB v1;have v3:=bg v3;have v4:=bg v4;simp only [E.den]at v3 v4;have WK:Reads hp ρ w S [r.j]:=fun j hj=>dp j (by simp at hj;simp [hj])
           obtain⟨hj,eu⟩:=fh hr WK v1;have hS:=WK r.j (by simp) _ hj;rw [J2]at hS;obtain⟨_,s2,s3⟩:=gf (te:=te) jx (fun j hj=>dp j (agF _ hj)) v2 v4;have Aq:(dV r.p.len sc.n).den ρ 0=r.p.len.den ρ 0+sc.n.den ρ 0:=bN ..;obtain⟨b1,b2⟩:=hJ (n:=dV r.p.len sc.n) (bytes:=te.bytes) (v5 _ (by simp)) (by rw [Aq];omega);have m7:((dV r.p.len sc.n).den ρ 0).toNat=(r.p.len.den ρ 0).toNat+(sc.n.den ρ 0).toNat:=by rw [Aq];omega
           rw [m7]at b1 b2;obtain⟨cU,kP⟩:=hS;simp only [if_true]at cU;obtain⟨o1,o2⟩:=rm eu v3 cU;have Z8:=eu.hi;have TB:=eu.lo;obtain⟨e1,e2⟩:=j9 (ρ:=ρ) eu.lo hrc;have Zh:((aI ρ (r.n.den ρ 0).toNat r.aA).drop ((r.p.lo.den ρ 0).toNat*r.s)).take ((r.p.len.den ρ 0).toNat*r.s)=aI ρ (r.p.len.den ρ 0).toNat rc:=by
            rw [cK,hw,wh (dH ρ r.aA) _ _ _ (by omega),cK];exact cV fun i _=>(e2 i).symm
           rw [Zh]at o1;obtain⟨v',w',r1,r2,r3,r5⟩:=oB (P:=P) tt.t ty te.t i z te.size te.bytes hu hi hz fx wq qF yN (x.val ρ) (r.p.len.den ρ 0).toNat _ (by rw [←ht,←hs];exact o1)
            _ _ _ s3 (by rw [dI,s2]) (pX _ _) (by unfold maxLen;omega) b1
           have fM:aI ρ ((dV r.p.len sc.n).den ρ 0).toNat aV=aI ρ (r.p.len.den ρ 0).toNat rc++aI ρ (sc.n.den ρ 0).toNat sc.aA:=by
            rw [m7];split at eU
            ·rename_i Kk;cases eU;rw [Kk];simp [E.den,aI,aT]
            ·obtain⟨c1,c2,c3⟩:=gb (ρ:=ρ) v3 v4 eU;rw [cK,gx];congr 1
             ·exact cV fun k hk=>by rw [c3,if_neg (by omega)]
             ·exact cV fun k hk=>by rw [c3,if_pos (by omega)];congr 1;omega
           refine⟨te.t,r.s,_,aV,v',w',fun k=>v'.ownBlock=some k,rfl,rfl,by simp only [agK,r1,agG,ag0],?_,⟨_,hj,by rw [J2];rfl⟩,⟨r3.os,r3.tape,r3.output,r3.size⟩,?_,⟨?_,fun k=>⟨fun h=>⟨h,.inl rfl⟩,fun h=>h.1⟩⟩,?_⟩
           ·rcases r2.2 with⟨rfl,_⟩ | ⟨g,o,cap,cur,rfl,_⟩<;>rfl
           ·intro k hk hn;refine r3.block k hk fun he=>hn ((kP k).2 ⟨?_,.inl rfl⟩)
            rw [←o2,←he]
           ·simp only [if_true];rw [fM,m7,hs];exact r2
           ·intro k hk;rcases r5 with h | h
            ·left;rw [kP k,←o2,←h];exact⟨hk,.inl rfl⟩
            ·right;rw [hk]at h;cases h;exact⟨Nat.le_refl _,iu r2 hk⟩
          ·cases h
         ·cases h
       ·cases h
      ·cases h
   ·cases h
  ·cases h
 ·cases h
end
end Go.RX
