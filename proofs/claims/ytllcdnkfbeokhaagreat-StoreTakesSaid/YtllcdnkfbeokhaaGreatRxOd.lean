/- Executor. -/
import Derived.Test.YtllcdnkfbeokhaaGreatM08
open Go.Builtin renaming append_ → aqJ
open Go.Result renaming andThen_ok → aqu
open Go.Sem renaming run_bind → aqA, run_pure → aqH
open Int renaming toNat → ag, toNat_natCast → aqD
open List renaming eq_nil_of_length_eq_zero → aqF, mem_cons_of_mem → aqv
open Option renaming map_eq_some_iff → aqq
open Option.some renaming injEq → aqp
namespace Go.RX
section
variable {P:Program} {ρ:Env} {w:World} {look:Nat→Option SV} {bD:Operand→Value} {hp:List Ck} {S:Nat→Nat→Prop} {nb nv:Nat} {T:List TI}
theorem BK{t s n:Nat}{v:Value}{cs vs:List Value}{S:Nat→Prop}(h:(aB true t s v n cs).p w S)(c:Nat)(hl:c+vs.length≤cs.length)
  (h1: ∀u∈vs,u.oneCell'=true) (a:Addr) (ha:0<vs.length→ft v c= .pointer (some a)):
  ∃w',(storeCells a vs).run P w= .ok () w'∧ic w w'∧w'.heap.size=w.heap.size∧
   (∀k,¬S k→w'.heap[k]? =w.heap[k]?)∧(aB true t s v n (cs.take c++vs++cs.drop (c+vs.length))).p w' S∧(vs=[]→w'=w):=by
 cases vs with
 | nil=>
  refine⟨w,rfl,ic.refl w,rfl,fun _ _=>rfl,?_,fun _=>rfl⟩;simpa using h
 | cons u r=>
  obtain⟨g,o,w',g1,g2,g3,g4,g5,g6,g7⟩:=Ba (P:=P) h c hl (by simp) h1;have:=ha (by simp);rw [g1]at this;cases this;exact⟨w',g3,g4,g5,fun k hk=>g6 k (fun e=>hk (e▸g2)),g7,by simp⟩
theorem xe{x:Value}{m s:Nat}{news:List Value}(h:World.wL w x m news)(hl:news.length=m*s):
  (Builtin.lenOf x).run P w= .ok m w∧∀k,k≤m→(Builtin.firstCells s k x).run P w= .ok (news.take (k*s)).toArray w:=by
 obtain⟨a,c,rfl,j4,hr⟩:=h;refine⟨rfl,fun k hk=>?_⟩;cases a with
 | none=>
  have hm:=j4 rfl;subst hm;have:news=[]:=aqF (by simpa using hl);subst this;simp [Builtin.firstCells]
 | some a=>
  have Yy:k*s≤m*s:=Nat.mul_le_mul_right _ hk;have:=run_loadCells_list (P:=P) w a (news.take (k*s)) (fun j v hv=>by
   rw [List.getElem?_take]at hv;split at hv
   ·exact hr a rfl j v hv
   ·cases hv)
  rw [List.length_take,hl,Nat.min_eq_left Yy]at this;simpa [Builtin.firstCells] using this
theorem nU(t ty e:TypeId)(i:TypeInfo)(z:Value)(size bytes:Nat)(ht:P.underlying t=some (.slice e))(hi:P.info? e=some i)(hz:i.zero=some z)
  (jY:i.size=size) (uT:i.bytes=bytes) (pK:z.cells.size=size) (fy:0<size)
  (v:Value) (n:Nat) (xs:List Value) (cY:w.jk e size v n xs) (y:Value) (m:Nat) (news:List Value) (hy:World.wL w y m news) (hl:news.length=m*size)
  (h1: ∀u∈news,u.oneCell'=true) (Qp:n+m≤maxLen) (o_:(n+m)*bytes≤140737488355328):
  ∃v' w',(aqJ #[t,t] ty #[v,y]).run P w= .ok v' w'∧w'.jk e size v' (n+m) (xs++news)∧w.grownBy w' v.ownBlock∧
   (v'.ownBlock=v.ownBlock∨v'.ownBlock=some w.heap.size):=by
 obtain⟨a,c,rfl,j4,hr⟩:=hy;cases a with
 | some a=>
  exact nT (P:=P) (w:=w) t ty e i z size bytes ht hi hz jY uT pK fy v n xs cY a m c news hl (hr a rfl) h1 Qp o_
 | none=>
  have hm:=j4 rfl;subst hm;have:news=[]:=aqF (by simpa using hl);subst this;refine⟨v,w,?_,by simpa using cY,⟨rfl,rfl,rfl,Nat.le_refl _,fun _ _ _=>rfl⟩,.inl rfl⟩;rcases cY.2 with⟨rfl,rfl⟩ | ⟨g,o,cap,cur,rfl,_,Dc,_⟩
  ·simp [aqJ,run_underlying ht,sizeOf,typeInfo,hi,Builtin.lenOf,Builtin.firstCells]
  ·simp [aqJ,run_underlying ht,sizeOf,typeInfo,hi,Builtin.lenOf,Builtin.firstCells,Dc,storeCells]
theorem zW(t ty e:TypeId)(i:TypeInfo)(ht:P.underlying t=some (.slice e))(hi:P.info? e=some i)(a:Option Addr)(N C:Nat)(y:Value)(m:Nat)(news:List Value)
  (hy:World.wL w y m news) (hl:news.length=m*i.size) (sK:N+m≤C) {w':World} (hs: ∀ad,a=some ad→(storeCells (ad.add (N*i.size)) news).run P w= .ok () w') (hn:a=none→w'=w):
  (aqJ #[t,t] ty #[.slice a N C,y]).run P w= .ok (.slice a (N+m) C) w':=by
 obtain⟨q1,q2⟩:=xe (P:=P) hy hl;have q2:=q2 m (Nat.le_refl _);rw [List.take_of_length_le (by omega)]at q2;cases a with
 | none=>
  have:=hn rfl;subst this;simp [aqJ,run_underlying ht,sizeOf,typeInfo,hi,q1,q2,sK]
 | some ad=>
  have:=hs ad rfl;simp [aqJ,run_underlying ht,sizeOf,typeInfo,hi,q1,q2,sK,this]
theorem xf{t s:Nat}{v x:Value}{n:E}{p:Part}{cs:List Value}(h:mI ρ s v x n p)(hl:0≤p.len.den ρ 0)
  (hv:w.jk t s v (n.den ρ 0).toNat cs):w.jk t s x (p.len.den ρ 0).toNat ((cs.drop ((p.lo.den ρ 0).toNat*s)).take ((p.len.den ρ 0).toNat*s))∧x.ownBlock=v.ownBlock:=by
 have hle:(p.lo.den ρ 0).toNat+(p.len.den ρ 0).toNat≤(n.den ρ 0).toNat:=by
  have h1:=h.lo;have h2:=h.hi;clear hv h;omega
 obtain⟨h1,h2,h3,a,c,k,rfl,hc,rfl,hk⟩:=h;obtain⟨hlen,hr⟩:=hv;have abH:=Nat.mul_le_mul_right s hle;rw [Nat.add_mul]at abH;have key: ∀(A B C:Nat),B+A≤C→min A (C - B)=A:=by intro A B C h;omega
 refine⟨⟨by rw [List.length_take,List.length_drop,hlen];exact key _ _ _ abH,?_⟩,by cases a<;>simp [Value.ownBlock,Addr.add];try (split<;>rfl)⟩;rcases hr with⟨he,hz⟩ | ⟨g,o,cap,cur,he,hg,Dc,QX,mC,AY⟩
 ·left;simp only [Value.slice.injEq]at he;obtain⟨rfl,_,rfl⟩:=he;have h0:(p.len.den ρ 0).toNat=0:=by omega
  refine⟨?_,h0⟩;rw [h0];simp only [Option.map_none,Value.slice.injEq,true_and];cases hm:p.mx with
  | none=>simp
  | some m=>
   have:=(h3 (m.den ρ 0) (by rw [hm];rfl)).2;simp only [Option.map_some,Option.getD_some];omega
 ·right;simp only [Value.slice.injEq]at he;obtain⟨rfl,_,rfl⟩:=he;simp only [Option.map_some,fw];have QY:((p.mx.map fun m=>m.den ρ 0).map ag).getD c≤c:=by
   cases hm:p.mx with
   | none=>exact Nat.le_refl _
   | some m=>
    have:=(h3 (m.den ρ 0) (by rw [hm];rfl)).2;simp only [Option.map_some,Option.getD_some];omega
  have xH:(p.lo.den ρ 0).toNat+(p.len.den ρ 0).toNat≤((p.mx.map fun m=>m.den ρ 0).map ag).getD c:=by
   cases hm:p.mx with
   | none=>simp only [Option.map_none,Option.getD_none];omega
   | some m=>
    have:=(h3 (m.den ρ 0) (by rw [hm];rfl)).1;simp only [Option.map_some,Option.getD_some];omega
  obtain⟨C,hC⟩: ∃C,C=((p.mx.map fun m=>m.den ρ 0).map ag).getD c:=⟨_,rfl⟩;rw [←hC]at hk QY xH ⊢;have q1:(p.len.den ρ 0).toNat≤C - (p.lo.den ρ 0).toNat:=Nat.le_sub_of_add_le (by rw [Nat.add_comm];exact xH);have q2:C - (p.lo.den ρ 0).toNat≤maxLen:=Nat.le_trans (Nat.sub_le _ _) (Nat.le_trans QY QX);refine⟨g,o+k,C - (p.lo.den ρ 0).toNat,cur,rfl,hg,q1,q2,fun u_=>?_,?_⟩
  ·have df:=hk (.inl (by omega));have:=mC (by omega);have e1:(C - (p.lo.den ρ 0).toNat)*s+(p.lo.den ρ 0).toNat*s=C*s:=by rw [←Nat.add_mul];congr 1;omega
   have e2:C*s≤c*s:=Nat.mul_le_mul_right _ QY;omega
  ·by_cases h0:(p.len.den ρ 0).toNat=0
   ·rw [h0,Nat.zero_mul,List.take_zero,List.take_zero]
   ·have df:=hk (.inl (by omega));rw [←AY,List.drop_take,List.take_take,List.drop_drop,df,Nat.min_eq_left (by omega)]
theorem iM{n:E}{bytes:Nat}(h:(pE n bytes).prop ρ)(h0:0≤n.den ρ 0):
  (n.den ρ 0).toNat*bytes≤140737488355328∧(n.den ρ 0).toNat≤140737488355328:=by
 unfold pE at h;have h:=of_decide_eq_true (iA ρ _ _▸(BE.bK ρ _).2 h);rw [gW]at h;simp only [E.den]at h;obtain⟨k,hk⟩:=Int.eq_ofNat_of_zero_le h0;rw [hk]at h ⊢;rw [←Int.natCast_mul]at h;have h:k*max 1 bytes≤140737488355328:=by omega
 have h2:k*bytes≤k*max 1 bytes:=Nat.mul_le_mul_left _ (Nat.le_max_right _ _);have h3:k*1≤k*max 1 bytes:=Nat.mul_le_mul_left _ (Nat.le_max_left _ _);simp only [aqD];omega
theorem qU(n L:Nat)(ay:List bL)(h:L≤n):(aF ρ n ay).take (L*bW ay)=aF ρ L ay:=by
 have:=tR (dC ρ ay) n 0 L (by omega);rw [Nat.zero_mul,List.drop_zero]at this;rw [cH,this,cH];exact cT fun i _=>by rw [Nat.zero_add]
theorem wg(hT:bx P T=true){ts:TypeId}{tt:TI}(fQ:aP T ts=some tt){x y:SV}{res:gY}(h:tb T hp nv tt.k x y=some res)
  (cN:Reads hp ρ w S res.rd) (bY: ∀b∈res.vcs,b.prop ρ) (ty:TypeId):
  Did P ρ w hp S nb nv ((do pure (.value (←aqJ #[ts,ts] ty #[x.val ρ,y.val ρ])):Sem Next).run P w) res:=by
 unfold tb at h;split at h
 ·rename_i t hk;split at h
  ·rename_i te iJ;obtain⟨rfl,pg⟩:=aA hT fQ;obtain⟨rfl,cO⟩:=aA hT iJ;have df:=pg.kind;rw [hk]at df;have hu:=bH df;obtain⟨i,hi,fy,uT,z,hz,hc⟩:=cO.info;have pK:z.cells.size=te.size:=by rw [←Array.length_toList,←hc ρ,bh,cO.AB]
   split at h
   ·rename_i sc jt;split at h
    ·cases h
    ·rename_i u_;have u_:0<te.size:=by omega
     split at h
     ·cases h;simp only at bY cN;obtain⟨v1,v3⟩:=bw bY;obtain⟨v1,v2⟩:=bw v1;have v2:=aZ v2;simp only [E.den]at v2;obtain⟨b1,b2⟩:=iM (bytes:=te.bytes) (v3 _ (by simp)) v2;obtain⟨_,s2,s3⟩:=fR jt cN v1 v2;obtain⟨v',w',r1,r2,r3,r5⟩:=nU (P:=P) tt.t ty te.t i z te.size te.bytes hu hi hz fy uT pK u_ (.slice none 0 0) 0 [] (mB w te.t te.size)
       _ _ _ s3 (by rw [dS,s2]) (pf _ _) (by unfold maxLen;omega) (by rw [Nat.zero_add];exact b1)
      refine⟨te.t,te.size,_,sc.ay,v',w',fun k=>v'.ownBlock=some k,rfl,rfl,by simp only [SV.val,aqA,r1,aqu,aqH],?_,⟨r3.os,r3.tape,r3.output,r3.size⟩,fun k hk=>r3.block k hk (by simp [Value.ownBlock]),⟨?_,fun k=>⟨fun h=>⟨h,.inl rfl⟩,fun h=>h.1⟩⟩,?_⟩
      ·rcases r2.2 with⟨rfl,_⟩ | ⟨g,o,cap,cur,rfl,_⟩<;>rfl
      ·simp only [if_true];simpa using r2
      ·intro k hk;rcases r5 with h | h
       ·rw [hk]at h;cases h
       ·rw [hk]at h;cases h;exact⟨Nat.le_refl _,iS r2 hk⟩
     ·rename_i b ix s n m;split at h
      ·rename_i x q hx hq;split at h
       ·rename_i hc;obtain⟨hxn,rfl,rfl⟩:=hc;rw [aqq]at h;obtain⟨aN,eT,rfl⟩:=h;simp only at bY cN;obtain⟨v1,v4⟩:=bw bY;obtain⟨v1,v3⟩:=bw v1;obtain⟨v1,v2⟩:=bw v1;have v3:=aZ v3;simp only [E.den]at v3;have hqn:sc.n.den ρ 0=((q+1:Nat):Int):=bU (ρ:=ρ) hq;obtain⟨_,x2,x3⟩:=fR (te:=te) hx (fun j hj=>cN j (List.mem_append_left _ hj)) v1 (by rw [hxn];exact v3);obtain⟨_,s2,s3⟩:=fR (te:=te) jt (fun j hj=>cN j (List.mem_append_right _ hj)) v2 (by omega);rw [hxn]at x3;have vl:(dB n sc.n).den ρ 0=n.den ρ 0+sc.n.den ρ 0:=bB ..;obtain⟨b1,b2⟩:=iM (n:=dB n sc.n) (bytes:=te.bytes) (v4 _ (by simp)) (by rw [vl];omega);have mJ:((dB n sc.n).den ρ 0).toNat=(n.den ρ 0).toNat+(sc.n.den ρ 0).toNat:=by rw [vl];omega
        rw [mJ]at b1 b2;obtain⟨ya,yc,hyv,abI,hyr⟩:=s3;have hya: ∃a,ya=some a:=by
         cases ya with
         | none=>have:=abI rfl;omega
         | some a=>exact⟨a,rfl⟩
        obtain⟨ya,rfl⟩:=hya;obtain⟨xa,xc,Gs,_,hxr⟩:=x3;have abJ:(SV.sl b ix te.size n n).val ρ= .slice (some ⟨ρ.bv.getD b 0,(ix.den ρ 0).toNat*te.size,none⟩) (n.den ρ 0).toNat (n.den ρ 0).toNat:=rfl;rw [abJ]at Gs;simp only [Value.slice.injEq]at Gs;obtain⟨FN,_,_⟩:=Gs;obtain⟨v',w',r1,r2,r3,r5⟩:=pL (P:=P) (w:=w) tt.t ty te.t i z te.size te.bytes hu hi hz fy uT pK ⟨ρ.bv.getD b 0,(ix.den ρ 0).toNat*te.size,none⟩ (n.den ρ 0).toNat _ (by rw [dS,x2])
         (fun j u hj=>hxr _ FN.symm j u hj) ya (sc.n.den ρ 0).toNat yc (by omega) _ (by rw [dS,s2]) (fun j u hj=>hyr _ rfl j u hj) (by unfold maxLen;omega) b1
        have gp:aF ρ ((dB n sc.n).den ρ 0).toNat aN=aF ρ (n.den ρ 0).toNat x.ay++aF ρ (sc.n.den ρ 0).toNat sc.ay:=by
         rw [mJ];obtain⟨c1,c2,c3⟩:=gN (ρ:=ρ) v3 (by omega) eT;rw [cH,g9];congr 1
         ·exact cT fun k hk=>by rw [c3,if_neg (by omega)]
         ·exact cT fun k hk=>by rw [c3,if_pos (by omega)];congr 1;omega
        refine⟨te.t,te.size,_,aN,v',w',fun k=>v'.ownBlock=some k,rfl,rfl,by rw [abJ,hyv];simp only [aqA,r1,aqu,aqH],?_,⟨r3.os,r3.tape,r3.output,r3.size⟩,fun k hk=>r3.block k hk (by simp),⟨?_,fun k=>⟨fun h=>⟨h,.inl rfl⟩,fun h=>h.1⟩⟩,?_⟩
        ·rcases r2.2 with⟨rfl,_⟩ | ⟨g,o,cap,cur,rfl,_⟩<;>rfl
        ·simp only [if_true];rw [gp,mJ];exact r2
        ·intro k hk;rw [hk]at r5;cases r5;exact⟨Nat.le_refl _,iS r2 hk⟩
       ·cases h
      ·cases h
     ·split at h
      ·rename_i r hr;split at h
       ·rename_i fZ;obtain⟨ht,hs,hw,HO⟩:=fZ;split at h
        ·split at h
         ·rename_i v lo dy s aN eT _ _ _;cases h;simp only at bY cN;obtain⟨v1,v4⟩:=bw bY;obtain⟨v1,v3⟩:=bw v1;obtain⟨v1,v2⟩:=bw v1;have v3:=aZ v3;have v4:=aZ v4;simp only [E.den]at v3;rw [bB]at v4;have XA:Reads hp ρ w S [r.j]:=fun j hj=>cN j (by simp at hj;simp [hj])
          obtain⟨hj,_⟩:=fE hr XA v1;have hS:=XA r.j (by simp) _ hj;obtain⟨_,s2,s3⟩:=fR (te:=te) jt (fun j hj=>cN j (aqv _ hj)) v2 v3;have hrv:r.v=v∧r.s=s∧r.p=⟨dB (.lit 0) lo,sC dy lo,none⟩∧r.vcs=(ns r.n ⟨.lit 0,r.n,none⟩ ⟨lo,dy,none⟩).2++[]:=by
           unfold gL at hr;simp only at hr;split at hr
           ·split at hr
            ·rename_i hss;cases hr;exact⟨rfl,hss,rfl,rfl⟩
            ·cases hr
           ·cases hr
          obtain⟨rfl,rfl,mr,ahV⟩:=hrv;have v1:=ahV▸v1;rw [List.append_nil]at v1;obtain⟨_,k1,k2,_,a,N,C,hv,hN,hC,_⟩:=(mI.whole (ρ:=ρ) (s:=r.s) (n:=r.n) (oK hS)).step _ v1;have hC:=hC rfl;simp only at k1 k2 hN hC;rw [HO]at hS;have dK:(dB r.p.lo r.p.len).den ρ 0=dy.den ρ 0:=by
           rw [mr];simp only [bB,eZ,E.den];omega
          obtain⟨c1,c2,c3⟩:=gN (ρ:=ρ) (by rw [dK];omega) v3 eT;rw [dK]at c3;have MI:=yR (f:=rowAt ρ r.ay) (g:=rowAt ρ sc.ay) (h:=rowAt ρ aN) (s:=r.s) (fun i=>by rw [dC];exact hw.symm) (r.n.den ρ 0).toNat (dy.den ρ 0).toNat (sc.n.den ρ 0).toNat
           (by omega) c3
          have tq:(aF ρ (sc.n.den ρ 0).toNat sc.ay).length=(sc.n.den ρ 0).toNat*r.s:=by rw [dS,s2,hs]
          have XB:(dy.den ρ 0).toNat*r.s+(aF ρ (sc.n.den ρ 0).toNat sc.ay).length≤(aF ρ (r.n.den ρ 0).toNat r.ay).length:=by
           rw [tq,dS,←hw,←Nat.add_mul];exact Nat.mul_le_mul_right _ (by omega)
          obtain⟨w',g1,g2,g3,g4,g5,g6⟩:=BK (P:=P) hS ((dy.den ρ 0).toNat*r.s) XB (pf _ _) ((a.getD ⟨0,0,none⟩).add ((dy.den ρ 0).toNat*r.s)) (fun I9=>by
           rw [hv];cases a with
           | none=>
            exfalso;obtain⟨_,_,he,j4,_⟩:=(B4 hS).1;rw [hv]at he;cases he;have:=j4 rfl;rw [tq]at I9;have:(sc.n.den ρ 0).toNat=0:=by omega
            rw [this,Nat.zero_mul]at I9;omega
           | some a=>rfl)
          refine⟨w',.inl ?_,⟨⟨_,hj,by rw [HO];rfl⟩,rfl,g2,g3,g4,?_⟩⟩
          ·have ik:=zW (P:=P) (w:=w) (w':=w') tt.t ty te.t i hu hi (if C=(lo.den ρ 0).toNat then a else a.map (·.add ((lo.den ρ 0).toNat*r.s))) ((dy.den ρ 0).toNat - (lo.den ρ 0).toNat) (C - (lo.den ρ 0).toNat)
            (y.val ρ) (sc.n.den ρ 0).toNat (aF ρ (sc.n.den ρ 0).toNat sc.ay) s3 (by rw [tq,fy,hs]) (by
             have:(r.n.den ρ 0).toNat≤C:=by
              obtain⟨_,_,he,hle⟩:=oK hS;rw [hv]at he;cases he;exact hle
             omega) (fun ad had=>by
             cases a with
             | none=>simp at had
             | some a0=>
              by_cases Y3:(sc.n.den ρ 0).toNat=0
              ·have j4:aF ρ (sc.n.den ρ 0).toNat sc.ay=[]:=aqF (by rw [tq,Y3,Nat.zero_mul]);rw [j4]at g6 ⊢;rw [g6 rfl];rfl
              ·have hle:(r.n.den ρ 0).toNat≤C:=by
                obtain⟨_,_,he,hle⟩:=oK hS;rw [hv]at he;cases he;exact hle
               rw [if_neg (by omega)]at had;simp only [Option.map_some,aqp]at had;subst had;rw [dv,fy,←hs,←Nat.add_mul,show(lo.den ρ 0).toNat+((dy.den ρ 0).toNat - (lo.den ρ 0).toNat)=(dy.den ρ 0).toNat by omega];exact g1) (fun Fw=>by
             apply g6;cases a with
             | some a0=>split at Fw<;>simp at Fw
             | none=>
              obtain⟨_,_,he,j4,_⟩:=(B4 hS).1;rw [hv]at he;cases he;have:=j4 rfl;apply aqF;rw [tq,show(sc.n.den ρ 0).toNat=0 by omega,Nat.zero_mul])
           have e1:(SV.jo r.v [⟨lo,dy,none⟩] r.s).val ρ= .slice (if C=(lo.den ρ 0).toNat then a else a.map (·.add ((lo.den ρ 0).toNat*r.s))) ((dy.den ρ 0).toNat - (lo.den ρ 0).toNat) (C - (lo.den ρ 0).toNat):=by
            simp only [SV.val,dD,hv];rfl
           have e2:(SV.jo r.v [⟨lo,dB dy sc.n,none⟩] r.s).val ρ= .slice (if C=(lo.den ρ 0).toNat then a else a.map (·.add ((lo.den ρ 0).toNat*r.s))) ((dy.den ρ 0).toNat - (lo.den ρ 0).toNat+(sc.n.den ρ 0).toNat) (C - (lo.den ρ 0).toNat):=by
            simp only [SV.val,dD,hv,bB];show Value.slice _ _ _=_;congr 1;omega
           simp only [aqA,e1,ik,aqu,aqH,e2]
          ·simp only [Ck.den];rw [cH,MI];rw [tq]at g5;rw [←ht];exact g5
         ·cases h
        ·split at h
         ·rename_i rc hrc;split at h
          ·rename_i aN eT;cases h;simp only at bY cN;obtain⟨v1,v5⟩:=bw bY;obtain⟨v1,v4⟩:=bw v1;obtain⟨v1,v3⟩:=bw v1;obtain⟨v1,v2⟩:=bw v1;have v3:=aZ v3;have v4:=aZ v4;simp only [E.den]at v3 v4;have XA:Reads hp ρ w S [r.j]:=fun j hj=>cN j (by simp at hj;simp [hj])
           obtain⟨hj,eJ⟩:=fE hr XA v1;have hS:=XA r.j (by simp) _ hj;rw [HO]at hS;obtain⟨_,s2,s3⟩:=fR (te:=te) jt (fun j hj=>cN j (aqv _ hj)) v2 v4;have vl:(dB r.p.len sc.n).den ρ 0=r.p.len.den ρ 0+sc.n.den ρ 0:=bB ..;obtain⟨b1,b2⟩:=iM (n:=dB r.p.len sc.n) (bytes:=te.bytes) (v5 _ (by simp)) (by rw [vl];omega);have mJ:((dB r.p.len sc.n).den ρ 0).toNat=(r.p.len.den ρ 0).toNat+(sc.n.den ρ 0).toNat:=by rw [vl];omega
           rw [mJ]at b1 b2;obtain⟨cY,lF⟩:=hS;simp only [if_true]at cY;obtain⟨o1,o2⟩:=xf eJ v3 cY;have Yo:=eJ.hi;have JS:=eJ.lo;obtain⟨e1,e2⟩:=j9 (ρ:=ρ) eJ.lo hrc;have abK:((aF ρ (r.n.den ρ 0).toNat r.ay).drop ((r.p.lo.den ρ 0).toNat*r.s)).take ((r.p.len.den ρ 0).toNat*r.s)=aF ρ (r.p.len.den ρ 0).toNat rc:=by
            rw [cH,hw,tR (dC ρ r.ay) _ _ _ (by omega),cH];exact cT fun i _=>(e2 i).symm
           rw [abK]at o1;obtain⟨v',w',r1,r2,r3,r5⟩:=nU (P:=P) tt.t ty te.t i z te.size te.bytes hu hi hz fy uT pK u_ (x.val ρ) (r.p.len.den ρ 0).toNat _ (by rw [←ht,←hs];exact o1)
            _ _ _ s3 (by rw [dS,s2]) (pf _ _) (by unfold maxLen;omega) b1
           have gp:aF ρ ((dB r.p.len sc.n).den ρ 0).toNat aN=aF ρ (r.p.len.den ρ 0).toNat rc++aF ρ (sc.n.den ρ 0).toNat sc.ay:=by
            rw [mJ];split at eT
            ·rename_i An;cases eT;rw [An];simp [E.den,aF,aK]
            ·obtain⟨c1,c2,c3⟩:=gN (ρ:=ρ) v3 v4 eT;rw [cH,g9];congr 1
             ·exact cT fun k hk=>by rw [c3,if_neg (by omega)]
             ·exact cT fun k hk=>by rw [c3,if_pos (by omega)];congr 1;omega
           refine⟨te.t,r.s,_,aN,v',w',fun k=>v'.ownBlock=some k,rfl,rfl,by simp only [aqA,r1,aqu,aqH],?_,⟨_,hj,by rw [HO];rfl⟩,⟨r3.os,r3.tape,r3.output,r3.size⟩,?_,⟨?_,fun k=>⟨fun h=>⟨h,.inl rfl⟩,fun h=>h.1⟩⟩,?_⟩
           ·rcases r2.2 with⟨rfl,_⟩ | ⟨g,o,cap,cur,rfl,_⟩<;>rfl
           ·intro k hk hn;refine r3.block k hk fun he=>hn ((lF k).2 ⟨?_,.inl rfl⟩)
            rw [←o2,←he]
           ·simp only [if_true];rw [gp,mJ,hs];exact r2
           ·intro k hk;rcases r5 with h | h
            ·left;rw [lF k,←o2,←h];exact⟨hk,.inl rfl⟩
            ·right;rw [hk]at h;cases h;exact⟨Nat.le_refl _,iS r2 hk⟩
          ·cases h
         ·cases h
       ·cases h
      ·cases h
   ·cases h
  ·cases h
 ·cases h
end
end Go.RX
