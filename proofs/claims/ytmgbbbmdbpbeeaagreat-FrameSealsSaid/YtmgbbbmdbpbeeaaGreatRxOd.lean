/- Executor. -/
import Derived.Test.YtmgbbbmdbpbeeaaGreatRxOc
open Go.Builtin renaming append_ → afh
open Go.Result renaming andThen_ok → ae3
open Go.Sem renaming run_bind → afa, run_pure → afs
open Int renaming toNat → ag, toNat_natCast → afe
open List renaming eq_nil_of_length_eq_zero → aff, mem_cons_of_mem → ae4
open Option renaming getD_some → afG, map_eq_some_iff → aeY
open Option.some renaming injEq → aeX
namespace Go.RX
section
variable {P:Program} {ρ:Env} {w:World} {look:Nat→Option SV} {vals:Operand→Value} {hp:List Ck} {S:Nat→Nat→Prop} {nb nv:Nat} {T:List TI}
theorem AX{t s n:Nat}{v:Value}{cs vs:List Value}{S:Nat→Prop}(h:(aE true t s v n cs).p w S)(c:Nat)(hl:c+vs.length≤cs.length)
  (h1: ∀u∈vs,u.oneCell'=true) (a:Addr) (ha:0<vs.length→eG v c= .pointer (some a)):
  ∃w',(storeCells a vs).run P w= .ok () w'∧fV w w'∧w'.heap.size=w.heap.size∧
   (∀k,¬S k→w'.heap[k]? =w.heap[k]?)∧(aE true t s v n (cs.take c++vs++cs.drop (c+vs.length))).p w' S∧(vs=[]→w'=w):=by
 cases vs with
 | nil=>
  refine⟨w,rfl,fV.refl w,rfl,fun _ _=>rfl,?_,fun _=>rfl⟩;simpa using h
 | cons u r=>
  obtain⟨g,o,w',g1,g2,g3,g4,g5,g6,g7⟩:=Ak (P:=P) h c hl (by simp) h1;have:=ha (by simp);rw [g1]at this;cases this;exact⟨w',g3,g4,g5,fun k hk=>g6 k (fun e=>hk (e▸g2)),g7,by simp⟩
theorem vD{x:Value}{m s:Nat}{news:List Value}(h:World.vC w x m news)(hl:news.length=m*s):
  (Builtin.lenOf x).run P w= .ok m w∧∀k,k≤m→(Builtin.firstCells s k x).run P w= .ok (news.take (k*s)).toArray w:=by
 obtain⟨a,c,rfl,ko,hr⟩:=h;refine⟨rfl,fun k hk=>?_⟩;cases a with
 | none=>
  have hm:=ko rfl;subst hm;have:news=[]:=aff (by simpa using hl);subst this;simp [Builtin.firstCells]
 | some a=>
  have hks:k*s≤m*s:=Nat.mul_le_mul_right _ hk;have:=run_loadCells_list (P:=P) w a (news.take (k*s)) (fun j v hv=>by
   rw [List.getElem?_take]at hv;split at hv
   ·exact hr a rfl j v hv
   ·cases hv)
  rw [List.length_take,hl,Nat.min_eq_left hks]at this;simpa [Builtin.firstCells] using this
theorem my(t ty e:TypeId)(i:TypeInfo)(z:Value)(size bytes:Nat)(ht:P.underlying t=some (.slice e))(hi:P.info? e=some i)(hz:i.zero=some z)
  (iW:i.size=size) (tA:i.bytes=bytes) (oM:z.cells.size=size) (fx:0<size)
  (v:Value) (n:Nat) (xs:List Value) (cM:w.g_ e size v n xs) (y:Value) (m:Nat) (news:List Value) (hy:World.vC w y m news) (hl:news.length=m*size)
  (h1: ∀u∈news,u.oneCell'=true) (OT:n+m≤maxLen) (nS:(n+m)*bytes≤140737488355328):
  ∃v' w',(afh #[t,t] ty #[v,y]).run P w= .ok v' w'∧w'.g_ e size v' (n+m) (xs++news)∧w.grownBy w' v.ownBlock∧
   (v'.ownBlock=v.ownBlock∨v'.ownBlock=some w.heap.size):=by
 obtain⟨a,c,rfl,ko,hr⟩:=hy;cases a with
 | some a=>
  exact mv (P:=P) (w:=w) t ty e i z size bytes ht hi hz iW tA oM fx v n xs cM a m c news hl (hr a rfl) h1 OT nS
 | none=>
  have hm:=ko rfl;subst hm;have:news=[]:=aff (by simpa using hl);subst this;refine⟨v,w,?_,by simpa using cM,⟨rfl,rfl,rfl,Nat.le_refl _,fun _ _ _=>rfl⟩,.inl rfl⟩;rcases cM.2 with⟨rfl,rfl⟩ | ⟨g,o,cap,cur,rfl,_,CI,_⟩
  ·simp [afh,run_underlying ht,sizeOf,typeInfo,hi,Builtin.lenOf,Builtin.firstCells]
  ·simp [afh,run_underlying ht,sizeOf,typeInfo,hi,Builtin.lenOf,Builtin.firstCells,CI,storeCells]
theorem yJ(t ty e:TypeId)(i:TypeInfo)(ht:P.underlying t=some (.slice e))(hi:P.info? e=some i)(a:Option Addr)(N C:Nat)(y:Value)(m:Nat)(news:List Value)
  (hy:World.vC w y m news) (hl:news.length=m*i.size) (tP:N+m≤C) {w':World} (hs: ∀ad,a=some ad→(storeCells (ad.add (N*i.size)) news).run P w= .ok () w') (hn:a=none→w'=w):
  (afh #[t,t] ty #[.slice a N C,y]).run P w= .ok (.slice a (N+m) C) w':=by
 obtain⟨q1,q2⟩:=vD (P:=P) hy hl;have q2:=q2 m (Nat.le_refl _);rw [List.take_of_length_le (by omega)]at q2;cases a with
 | none=>
  have:=hn rfl;subst this;simp [afh,run_underlying ht,sizeOf,typeInfo,hi,q1,q2,tP]
 | some ad=>
  have:=hs ad rfl;simp [afh,run_underlying ht,sizeOf,typeInfo,hi,q1,q2,tP,this]
theorem vE{t s:Nat}{v x:Value}{n:E}{p:Part}{cs:List Value}(h:lp ρ s v x n p)(hl:0≤p.len.den ρ 0)
  (hv:w.g_ t s v (n.den ρ 0).toNat cs):w.g_ t s x (p.len.den ρ 0).toNat ((cs.drop ((p.lo.den ρ 0).toNat*s)).take ((p.len.den ρ 0).toNat*s))∧x.ownBlock=v.ownBlock:=by
 have hle:(p.lo.den ρ 0).toNat+(p.len.den ρ 0).toNat≤(n.den ρ 0).toNat:=by
  have h1:=h.lo;have h2:=h.hi;clear hv h;omega
 obtain⟨h1,h2,h3,a,c,k,rfl,hc,rfl,hk⟩:=h;obtain⟨hlen,hr⟩:=hv;have W5:=Nat.mul_le_mul_right s hle;rw [Nat.add_mul]at W5;have key: ∀(A B C:Nat),B+A≤C→min A (C - B)=A:=by intro A B C h;omega
 refine⟨⟨by rw [List.length_take,List.length_drop,hlen];exact key _ _ _ W5,?_⟩,by cases a<;>simp [Value.ownBlock,Addr.add];try (split<;>rfl)⟩;rcases hr with⟨he,hz⟩ | ⟨g,o,cap,cur,he,hg,CI,OP,mj,CJ⟩
 ·left;simp only [Value.slice.injEq]at he;obtain⟨rfl,_,rfl⟩:=he;have h0:(p.len.den ρ 0).toNat=0:=by omega
  refine⟨?_,h0⟩;rw [h0];simp only [Option.map_none,Value.slice.injEq,true_and];cases hm:p.mx with
  | none=>simp
  | some m=>
   have:=(h3 (m.den ρ 0) (by rw [hm];rfl)).2;simp only [Option.map_some,afG];omega
 ·right;simp only [Value.slice.injEq]at he;obtain⟨rfl,_,rfl⟩:=he;simp only [Option.map_some,eI];have PK:((p.mx.map fun m=>m.den ρ 0).map ag).getD c≤c:=by
   cases hm:p.mx with
   | none=>exact Nat.le_refl _
   | some m=>
    have:=(h3 (m.den ρ 0) (by rw [hm];rfl)).2;simp only [Option.map_some,afG];omega
  have DV:(p.lo.den ρ 0).toNat+(p.len.den ρ 0).toNat≤((p.mx.map fun m=>m.den ρ 0).map ag).getD c:=by
   cases hm:p.mx with
   | none=>simp only [Option.map_none,Option.getD_none];omega
   | some m=>
    have:=(h3 (m.den ρ 0) (by rw [hm];rfl)).1;simp only [Option.map_some,afG];omega
  obtain⟨C,hC⟩: ∃C,C=((p.mx.map fun m=>m.den ρ 0).map ag).getD c:=⟨_,rfl⟩;rw [←hC]at hk PK DV ⊢;have q1:(p.len.den ρ 0).toNat≤C - (p.lo.den ρ 0).toNat:=Nat.le_sub_of_add_le (by rw [Nat.add_comm];exact DV);have q2:C - (p.lo.den ρ 0).toNat≤maxLen:=Nat.le_trans (Nat.sub_le _ _) (Nat.le_trans PK OP);refine⟨g,o+k,C - (p.lo.den ρ 0).toNat,cur,rfl,hg,q1,q2,fun qx=>?_,?_⟩
  ·have cX:=hk (.inl (by omega));have:=mj (by omega);have e1:(C - (p.lo.den ρ 0).toNat)*s+(p.lo.den ρ 0).toNat*s=C*s:=by rw [←Nat.add_mul];congr 1;omega
   have e2:C*s≤c*s:=Nat.mul_le_mul_right _ PK;omega
  ·by_cases h0:(p.len.den ρ 0).toNat=0
   ·rw [h0,Nat.zero_mul,List.take_zero,List.take_zero]
   ·have cX:=hk (.inl (by omega));rw [←CJ,List.drop_take,List.take_take,List.drop_drop,cX,Nat.min_eq_left (by omega)]
theorem gC{n:E}{bytes:Nat}(h:(om n bytes).prop ρ)(h0:0≤n.den ρ 0):
  (n.den ρ 0).toNat*bytes≤140737488355328∧(n.den ρ 0).toNat≤140737488355328:=by
 unfold om at h;have h:=of_decide_eq_true (gK ρ _ _▸(BE.cc ρ _).2 h);rw [fN]at h;simp only [E.den]at h;obtain⟨k,hk⟩:=Int.eq_ofNat_of_zero_le h0;rw [hk]at h ⊢;rw [←Int.natCast_mul]at h;have h:k*max 1 bytes≤140737488355328:=by omega
 have h2:k*bytes≤k*max 1 bytes:=Nat.mul_le_mul_left _ (Nat.le_max_right _ _);have h3:k*1≤k*max 1 bytes:=Nat.mul_le_mul_left _ (Nat.le_max_left _ _);simp only [afe];omega
theorem pR(n L:Nat)(aF:List bV)(h:L≤n):(aM ρ n aF).take (L*bW aF)=aM ρ L aF:=by
 have:=s_ (dh ρ aF) n 0 L (by omega);rw [Nat.zero_mul,List.drop_zero]at this;rw [ct,this,ct];exact cH fun i _=>by rw [Nat.zero_add]
theorem uw(hT:bG P T=true){ts:TypeId}{tt:TI}(fq:a_ T ts=some tt){x y:SV}{res:hZ}(h:rM T hp nv tt.k x y=some res)
  (cV:Reads hp ρ w S res.rd) (bY: ∀b∈res.vcs,b.prop ρ) (ty:TypeId):
  Did P ρ w hp S nb nv ((do pure (.value (←afh #[ts,ts] ty #[x.val ρ,y.val ρ])):Sem Next).run P w) res:=by
 unfold rM at h;split at h
 ·rename_i t hk;split at h
  ·rename_i te gX;obtain⟨rfl,nW⟩:=aH hT fq;obtain⟨rfl,cQ⟩:=aH hT gX;have cX:=nW.kind;rw [hk]at cX;have hu:=bO cX;obtain⟨i,hi,fx,tA,z,hz,hc⟩:=cQ.info;have oM:z.cells.size=te.size:=by rw [←Array.length_toList,←hc ρ,bB,cQ.ze]
   split at h
   ·rename_i sc iJ;split at h
    ·cases h
    ·rename_i qx;have qx:0<te.size:=by omega
     split at h
     ·cases h;simp only at bY cV;obtain⟨v1,v3⟩:=bD bY;obtain⟨v1,v2⟩:=bD v1;have v2:=bq v2;simp only [E.den]at v2;obtain⟨b1,b2⟩:=gC (bytes:=te.bytes) (v3 _ (by simp)) v2;obtain⟨_,s2,s3⟩:=fH iJ cV v1 v2;obtain⟨v',w',r1,r2,r3,r5⟩:=my (P:=P) tt.t ty te.t i z te.size te.bytes hu hi hz fx tA oM qx (.slice none 0 0) 0 [] (js w te.t te.size)
       _ _ _ s3 (by rw [dj,s2]) (nX _ _) (by unfold maxLen;omega) (by rw [Nat.zero_add];exact b1)
      refine⟨te.t,te.size,_,sc.aF,v',w',fun k=>v'.ownBlock=some k,rfl,rfl,by simp only [SV.val,afa,r1,ae3,afs],?_,⟨r3.os,r3.tape,r3.output,r3.size⟩,fun k hk=>r3.block k hk (by simp [Value.ownBlock]),⟨?_,fun k=>⟨fun h=>⟨h,.inl rfl⟩,fun h=>h.1⟩⟩,?_⟩
      ·rcases r2.2 with⟨rfl,_⟩ | ⟨g,o,cap,cur,rfl,_⟩<;>rfl
      ·simp only [if_true];simpa using r2
      ·intro k hk;rcases r5 with h | h
       ·rw [hk]at h;cases h
       ·rw [hk]at h;cases h;exact⟨Nat.le_refl _,gJ r2 hk⟩
     ·rename_i b ix s n m;split at h
      ·rename_i x q hx hq;split at h
       ·rename_i hc;obtain⟨hxn,rfl,rfl⟩:=hc;rw [aeY]at h;obtain⟨aZ,eB,rfl⟩:=h;simp only at bY cV;obtain⟨v1,v4⟩:=bD bY;obtain⟨v1,v3⟩:=bD v1;obtain⟨v1,v2⟩:=bD v1;have v3:=bq v3;simp only [E.den]at v3;have hqn:sc.n.den ρ 0=((q+1:Nat):Int):=cy (ρ:=ρ) hq;obtain⟨_,x2,x3⟩:=fH (te:=te) hx (fun j hj=>cV j (List.mem_append_left _ hj)) v1 (by rw [hxn];exact v3);obtain⟨_,s2,s3⟩:=fH (te:=te) iJ (fun j hj=>cV j (List.mem_append_right _ hj)) v2 (by omega);rw [hxn]at x3;have xP:(dB n sc.n).den ρ 0=n.den ρ 0+sc.n.den ρ 0:=bM ..;obtain⟨b1,b2⟩:=gC (n:=dB n sc.n) (bytes:=te.bytes) (v4 _ (by simp)) (by rw [xP];omega);have lq:((dB n sc.n).den ρ 0).toNat=(n.den ρ 0).toNat+(sc.n.den ρ 0).toNat:=by rw [xP];omega
        rw [lq]at b1 b2;obtain⟨ya,yc,YL,W6,YM⟩:=s3;have hya: ∃a,ya=some a:=by
         cases ya with
         | none=>have:=W6 rfl;omega
         | some a=>exact⟨a,rfl⟩
        obtain⟨ya,rfl⟩:=hya;obtain⟨xa,xc,F_,_,YK⟩:=x3;have W7:(SV.sl b ix te.size n n).val ρ= .slice (some ⟨ρ.bv.getD b 0,(ix.den ρ 0).toNat*te.size,none⟩) (n.den ρ 0).toNat (n.den ρ 0).toNat:=rfl;rw [W7]at F_;simp only [Value.slice.injEq]at F_;obtain⟨OM,_,_⟩:=F_;obtain⟨v',w',r1,r2,r3,r5⟩:=oz (P:=P) (w:=w) tt.t ty te.t i z te.size te.bytes hu hi hz fx tA oM ⟨ρ.bv.getD b 0,(ix.den ρ 0).toNat*te.size,none⟩ (n.den ρ 0).toNat _ (by rw [dj,x2])
         (fun j u hj=>YK _ OM.symm j u hj) ya (sc.n.den ρ 0).toNat yc (by omega) _ (by rw [dj,s2]) (fun j u hj=>YM _ rfl j u hj) (by unfold maxLen;omega) b1
        have ft:aM ρ ((dB n sc.n).den ρ 0).toNat aZ=aM ρ (n.den ρ 0).toNat x.aF++aM ρ (sc.n.den ρ 0).toNat sc.aF:=by
         rw [lq];obtain⟨c1,c2,c3⟩:=fG (ρ:=ρ) v3 (by omega) eB;rw [ct,fP];congr 1
         ·exact cH fun k hk=>by rw [c3,if_neg (by omega)]
         ·exact cH fun k hk=>by rw [c3,if_pos (by omega)];congr 1;omega
        refine⟨te.t,te.size,_,aZ,v',w',fun k=>v'.ownBlock=some k,rfl,rfl,by rw [W7,YL];simp only [afa,r1,ae3,afs],?_,⟨r3.os,r3.tape,r3.output,r3.size⟩,fun k hk=>r3.block k hk (by simp),⟨?_,fun k=>⟨fun h=>⟨h,.inl rfl⟩,fun h=>h.1⟩⟩,?_⟩
        ·rcases r2.2 with⟨rfl,_⟩ | ⟨g,o,cap,cur,rfl,_⟩<;>rfl
        ·simp only [if_true];rw [ft,lq];exact r2
        ·intro k hk;rw [hk]at r5;cases r5;exact⟨Nat.le_refl _,gJ r2 hk⟩
       ·cases h
      ·cases h
     ·split at h
      ·rename_i r hr;split at h
       ·rename_i gY;obtain⟨ht,hs,hw,He⟩:=gY;split at h
        ·split at h
         ·rename_i v lo mi s aZ eB _ _;cases h;simp only at bY cV;obtain⟨v1,v4⟩:=bD bY;obtain⟨v1,v3⟩:=bD v1;obtain⟨v1,v2⟩:=bD v1;have v3:=bq v3;have v4:=bq v4;simp only [E.den]at v3;rw [bM]at v4;have Ut:Reads hp ρ w S [r.j]:=fun j hj=>cV j (by simp at hj;simp [hj])
          obtain⟨hj,_⟩:=eQ hr Ut v1;have hS:=Ut r.j (by simp) _ hj;obtain⟨_,s2,s3⟩:=fH (te:=te) iJ (fun j hj=>cV j (ae4 _ hj)) v2 v3;have hrv:r.v=v∧r.s=s∧r.p=⟨dB (.lit 0) lo,tH mi lo,none⟩∧r.vcs=(lS r.n ⟨.lit 0,r.n,none⟩ ⟨lo,mi,none⟩).2++[]:=by
           unfold fE at hr;simp only at hr;split at hr
           ·split at hr
            ·rename_i hss;cases hr;exact⟨rfl,hss,rfl,rfl⟩
            ·cases hr
           ·cases hr
          obtain⟨rfl,rfl,kT,Z1⟩:=hrv;have v1:=Z1▸v1;rw [List.append_nil]at v1;obtain⟨_,k1,k2,_,a,N,C,hv,hN,hC,_⟩:=(lp.whole (ρ:=ρ) (s:=r.s) (n:=r.n) (nf hS)).step _ v1;have hC:=hC rfl;simp only at k1 k2 hN hC;rw [He]at hS;have dC:(dB r.p.lo r.p.len).den ρ 0=mi.den ρ 0:=by
           rw [kT];simp only [bM,eJ,E.den];omega
          obtain⟨c1,c2,c3⟩:=fG (ρ:=ρ) (by rw [dC];omega) v3 eB;rw [dC]at c3;have Mt:=yI (f:=rowAt ρ r.aF) (g:=rowAt ρ sc.aF) (h:=rowAt ρ aZ) (s:=r.s) (fun i=>by rw [dh];exact hw.symm) (r.n.den ρ 0).toNat (mi.den ρ 0).toNat (sc.n.den ρ 0).toNat
           (by omega) c3
          have rS:(aM ρ (sc.n.den ρ 0).toNat sc.aF).length=(sc.n.den ρ 0).toNat*r.s:=by rw [dj,s2,hs]
          have Uu:(mi.den ρ 0).toNat*r.s+(aM ρ (sc.n.den ρ 0).toNat sc.aF).length≤(aM ρ (r.n.den ρ 0).toNat r.aF).length:=by
           rw [rS,dj,←hw,←Nat.add_mul];exact Nat.mul_le_mul_right _ (by omega)
          obtain⟨w',g1,g2,g3,g4,g5,g6⟩:=AX (P:=P) hS ((mi.den ρ 0).toNat*r.s) Uu (nX _ _) ((a.getD ⟨0,0,none⟩).add ((mi.den ρ 0).toNat*r.s)) (fun I2=>by
           rw [hv];cases a with
           | none=>
            exfalso;obtain⟨_,_,he,ko,_⟩:=(Cz hS).1;rw [hv]at he;cases he;have:=ko rfl;rw [rS]at I2;have:(sc.n.den ρ 0).toNat=0:=by omega
            rw [this,Nat.zero_mul]at I2;omega
           | some a=>rfl)
          refine⟨w',.inl ?_,⟨⟨_,hj,by rw [He];rfl⟩,rfl,g2,g3,g4,?_⟩⟩
          ·have iS:=yJ (P:=P) (w:=w) (w':=w') tt.t ty te.t i hu hi (if C=(lo.den ρ 0).toNat then a else a.map (·.add ((lo.den ρ 0).toNat*r.s))) ((mi.den ρ 0).toNat - (lo.den ρ 0).toNat) (C - (lo.den ρ 0).toNat)
            (y.val ρ) (sc.n.den ρ 0).toNat (aM ρ (sc.n.den ρ 0).toNat sc.aF) s3 (by rw [rS,fx,hs]) (by
             have:(r.n.den ρ 0).toNat≤C:=by
              obtain⟨_,_,he,hle⟩:=nf hS;rw [hv]at he;cases he;exact hle
             omega) (fun ad pW=>by
             cases a with
             | none=>simp at pW
             | some a0=>
              by_cases Vs:(sc.n.den ρ 0).toNat=0
              ·have ko:aM ρ (sc.n.den ρ 0).toNat sc.aF=[]:=aff (by rw [rS,Vs,Nat.zero_mul]);rw [ko]at g6 ⊢;rw [g6 rfl];rfl
              ·have hle:(r.n.den ρ 0).toNat≤C:=by
                obtain⟨_,_,he,hle⟩:=nf hS;rw [hv]at he;cases he;exact hle
               rw [if_neg (by omega)]at pW;simp only [Option.map_some,aeX]at pW;subst pW;rw [dq,fx,←hs,←Nat.add_mul,show(lo.den ρ 0).toNat+((mi.den ρ 0).toNat - (lo.den ρ 0).toNat)=(mi.den ρ 0).toNat by omega];exact g1) (fun Ff=>by
             apply g6;cases a with
             | some a0=>split at Ff<;>simp at Ff
             | none=>
              obtain⟨_,_,he,ko,_⟩:=(Cz hS).1;rw [hv]at he;cases he;have:=ko rfl;apply aff;rw [rS,show(sc.n.den ρ 0).toNat=0 by omega,Nat.zero_mul])
           have e1:(SV.jP r.v [⟨lo,mi,none⟩] r.s).val ρ= .slice (if C=(lo.den ρ 0).toNat then a else a.map (·.add ((lo.den ρ 0).toNat*r.s))) ((mi.den ρ 0).toNat - (lo.den ρ 0).toNat) (C - (lo.den ρ 0).toNat):=by
            simp only [SV.val,cY,hv];rfl
           have e2:(SV.jP r.v [⟨lo,dB mi sc.n,none⟩] r.s).val ρ= .slice (if C=(lo.den ρ 0).toNat then a else a.map (·.add ((lo.den ρ 0).toNat*r.s))) ((mi.den ρ 0).toNat - (lo.den ρ 0).toNat+(sc.n.den ρ 0).toNat) (C - (lo.den ρ 0).toNat):=by
            simp only [SV.val,cY,hv,bM];show Value.slice _ _ _=_;congr 1;omega
           simp only [afa,e1,iS,ae3,afs,e2]
          ·simp only [Ck.den];rw [ct,Mt];rw [rS]at g5;rw [←ht];exact g5
         ·cases h
        ·split at h
         ·rename_i rc QJ;split at h
          ·rename_i aZ eB;cases h;simp only at bY cV;obtain⟨v1,v5⟩:=bD bY;obtain⟨v1,v4⟩:=bD v1;obtain⟨v1,v3⟩:=bD v1;obtain⟨v1,v2⟩:=bD v1;have v3:=bq v3;have v4:=bq v4;simp only [E.den]at v3 v4;have Ut:Reads hp ρ w S [r.j]:=fun j hj=>cV j (by simp at hj;simp [hj])
           obtain⟨hj,dI⟩:=eQ hr Ut v1;have hS:=Ut r.j (by simp) _ hj;rw [He]at hS;obtain⟨_,s2,s3⟩:=fH (te:=te) iJ (fun j hj=>cV j (ae4 _ hj)) v2 v4;have xP:(dB r.p.len sc.n).den ρ 0=r.p.len.den ρ 0+sc.n.den ρ 0:=bM ..;obtain⟨b1,b2⟩:=gC (n:=dB r.p.len sc.n) (bytes:=te.bytes) (v5 _ (by simp)) (by rw [xP];omega);have lq:((dB r.p.len sc.n).den ρ 0).toNat=(r.p.len.den ρ 0).toNat+(sc.n.den ρ 0).toNat:=by rw [xP];omega
           rw [lq]at b1 b2;obtain⟨cM,kp⟩:=hS;simp only [if_true]at cM;obtain⟨o1,o2⟩:=vE dI v3 cM;have X2:=dI.hi;have Qj:=dI.lo;obtain⟨e1,e2⟩:=jh (ρ:=ρ) dI.lo QJ;have W8:((aM ρ (r.n.den ρ 0).toNat r.aF).drop ((r.p.lo.den ρ 0).toNat*r.s)).take ((r.p.len.den ρ 0).toNat*r.s)=aM ρ (r.p.len.den ρ 0).toNat rc:=by
            rw [ct,hw,s_ (dh ρ r.aF) _ _ _ (by omega),ct];exact cH fun i _=>(e2 i).symm
           rw [W8]at o1;obtain⟨v',w',r1,r2,r3,r5⟩:=my (P:=P) tt.t ty te.t i z te.size te.bytes hu hi hz fx tA oM qx (x.val ρ) (r.p.len.den ρ 0).toNat _ (by rw [←ht,←hs];exact o1)
            _ _ _ s3 (by rw [dj,s2]) (nX _ _) (by unfold maxLen;omega) b1
           have ft:aM ρ ((dB r.p.len sc.n).den ρ 0).toNat aZ=aM ρ (r.p.len.den ρ 0).toNat rc++aM ρ (sc.n.den ρ 0).toNat sc.aF:=by
            rw [lq];split at eB
            ·rename_i HU;cases eB;rw [HU];simp [E.den,aM,aQ]
            ·obtain⟨c1,c2,c3⟩:=fG (ρ:=ρ) v3 v4 eB;rw [ct,fP];congr 1
             ·exact cH fun k hk=>by rw [c3,if_neg (by omega)]
             ·exact cH fun k hk=>by rw [c3,if_pos (by omega)];congr 1;omega
           refine⟨te.t,r.s,_,aZ,v',w',fun k=>v'.ownBlock=some k,rfl,rfl,by simp only [afa,r1,ae3,afs],?_,⟨_,hj,by rw [He];rfl⟩,⟨r3.os,r3.tape,r3.output,r3.size⟩,?_,⟨?_,fun k=>⟨fun h=>⟨h,.inl rfl⟩,fun h=>h.1⟩⟩,?_⟩
           ·rcases r2.2 with⟨rfl,_⟩ | ⟨g,o,cap,cur,rfl,_⟩<;>rfl
           ·intro k hk hn;refine r3.block k hk fun he=>hn ((kp k).2 ⟨?_,.inl rfl⟩)
            rw [←o2,←he]
           ·simp only [if_true];rw [ft,lq,hs];exact r2
           ·intro k hk;rcases r5 with h | h
            ·left;rw [kp k,←o2,←h];exact⟨hk,.inl rfl⟩
            ·right;rw [hk]at h;cases h;exact⟨Nat.le_refl _,gJ r2 hk⟩
          ·cases h
         ·cases h
       ·cases h
      ·cases h
   ·cases h
  ·cases h
 ·cases h
end
end Go.RX
