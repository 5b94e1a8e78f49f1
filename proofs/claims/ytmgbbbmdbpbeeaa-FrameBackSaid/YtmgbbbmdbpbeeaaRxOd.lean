/- Executor. -/
import Derived.Test.YtmgbbbmdbpbeeaaM08
open Go.Builtin renaming append_ → ad2
open Go.Result renaming andThen_ok → adC
open Go.Sem renaming run_bind → adL, run_pure → ad_
open Int renaming toNat → ag
open List renaming eq_nil_of_length_eq_zero → adR, mem_cons_of_mem → adB
open Option renaming getD_some → aee, map_eq_some_iff → adw
open Option.some renaming injEq → adv
namespace Go.RX
section
variable {P:Program} {ρ:Env} {w:World} {look:Nat→Option SV} {vals:Operand→Value} {hp:List Ck} {S:Nat→Nat→Prop} {nb nv:Nat} {T:List TI}
theorem Bb{t s n:Nat}{v:Value}{cs vs:List Value}{S:Nat→Prop}(h:(au true t s v n cs).p w S)(c:Nat)(hl:c+vs.length≤cs.length)
  (h1: ∀u∈vs,u.oneCell'=true) (a:Addr) (ha:0<vs.length→dU v c= .pointer (some a)):
  ∃w',(storeCells a vs).run P w= .ok () w'∧fE w w'∧w'.heap.size=w.heap.size∧
   (∀k,¬S k→w'.heap[k]? =w.heap[k]?)∧(au true t s v n (cs.take c++vs++cs.drop (c+vs.length))).p w' S∧(vs=[]→w'=w):=by
 cases vs with
 | nil=>
  refine⟨w,rfl,fE.refl w,rfl,fun _ _=>rfl,?_,fun _=>rfl⟩;simpa using h
 | cons u r=>
  obtain⟨g,o,w',g1,g2,g3,g4,g5,g6,g7⟩:=Am (P:=P) h c hl (by simp) h1;have:=ha (by simp);rw [g1]at this;cases this;exact⟨w',g3,g4,g5,fun k hk=>g6 k (fun e=>hk (e▸g2)),g7,by simp⟩
theorem vE{x:Value}{m s:Nat}{news:List Value}(h:World.uW w x m news)(hl:news.length=m*s):
  (Builtin.lenOf x).run P w= .ok m w∧∀k,k≤m→(Builtin.firstCells s k x).run P w= .ok (news.take (k*s)).toArray w:=by
 obtain⟨a,c,rfl,ke,hr⟩:=h;refine⟨rfl,fun k hk=>?_⟩;cases a with
 | none=>
  have hm:=ke rfl;subst hm;have:news=[]:=adR (by simpa using hl);subst this;simp [Builtin.firstCells]
 | some a=>
  have hks:k*s≤m*s:=Nat.mul_le_mul_right _ hk;have:=run_loadCells_list (P:=P) w a (news.take (k*s)) (fun j v hv=>by
   rw [List.getElem?_take]at hv;split at hv
   ·exact hr a rfl j v hv
   ·cases hv)
  rw [List.length_take,hl,Nat.min_eq_left hks]at this;simpa [Builtin.firstCells] using this
theorem mB(t ty e:TypeId)(i:TypeInfo)(z:Value)(size bytes:Nat)(ht:P.underlying t=some (.slice e))(hi:P.info? e=some i)(hz:i.zero=some z)
  (iL:i.size=size) (s9:i.bytes=bytes) (oK:z.cells.size=size) (eL:0<size)
  (v:Value) (n:Nat) (xs:List Value) (cr:w.gN e size v n xs) (y:Value) (m:Nat) (news:List Value) (hy:World.uW w y m news) (hl:news.length=m*size)
  (h1: ∀u∈news,u.oneCell'=true) (N6:n+m≤maxLen) (nL:(n+m)*bytes≤140737488355328):
  ∃v' w',(ad2 #[t,t] ty #[v,y]).run P w= .ok v' w'∧w'.gN e size v' (n+m) (xs++news)∧w.grownBy w' v.ownBlock∧
   (v'.ownBlock=v.ownBlock∨v'.ownBlock=some w.heap.size):=by
 obtain⟨a,c,rfl,ke,hr⟩:=hy;cases a with
 | some a=>
  exact mj (P:=P) (w:=w) t ty e i z size bytes ht hi hz iL s9 oK eL v n xs cr a m c news hl (hr a rfl) h1 N6 nL
 | none=>
  have hm:=ke rfl;subst hm;have:news=[]:=adR (by simpa using hl);subst this;refine⟨v,w,?_,by simpa using cr,⟨rfl,rfl,rfl,Nat.le_refl _,fun _ _ _=>rfl⟩,.inl rfl⟩;rcases cr.2 with⟨rfl,rfl⟩ | ⟨g,o,cap,cur,rfl,_,CZ,_⟩
  ·simp [ad2,run_underlying ht,sizeOf,typeInfo,hi,Builtin.lenOf,Builtin.firstCells]
  ·simp [ad2,run_underlying ht,sizeOf,typeInfo,hi,Builtin.lenOf,Builtin.firstCells,CZ,storeCells]
theorem yY(t ty e:TypeId)(i:TypeInfo)(ht:P.underlying t=some (.slice e))(hi:P.info? e=some i)(a:Option Addr)(N C:Nat)(y:Value)(m:Nat)(news:List Value)
  (hy:World.uW w y m news) (hl:news.length=m*i.size) (q9:N+m≤C) {w':World} (hs: ∀ad,a=some ad→(storeCells (ad.add (N*i.size)) news).run P w= .ok () w') (hn:a=none→w'=w):
  (ad2 #[t,t] ty #[.slice a N C,y]).run P w= .ok (.slice a (N+m) C) w':=by
 obtain⟨q1,q2⟩:=vE (P:=P) hy hl;have q2:=q2 m (Nat.le_refl _);rw [List.take_of_length_le (by omega)]at q2;cases a with
 | none=>
  have:=hn rfl;subst this;simp [ad2,run_underlying ht,sizeOf,typeInfo,hi,q1,q2,q9]
 | some ad=>
  have:=hs ad rfl;simp [ad2,run_underlying ht,sizeOf,typeInfo,hi,q1,q2,q9,this]
theorem vF{t s:Nat}{v x:Value}{n:E}{p:Part}{cs:List Value}(h:k9 ρ s v x n p)(hl:0≤p.len.den ρ 0)
  (hv:w.gN t s v (n.den ρ 0).toNat cs):w.gN t s x (p.len.den ρ 0).toNat ((cs.drop ((p.lo.den ρ 0).toNat*s)).take ((p.len.den ρ 0).toNat*s))∧x.ownBlock=v.ownBlock:=by
 have hle:(p.lo.den ρ 0).toNat+(p.len.den ρ 0).toNat≤(n.den ρ 0).toNat:=by
  have h1:=h.lo;have h2:=h.hi;clear hv h;omega
 obtain⟨h1,h2,h3,a,c,k,rfl,hc,rfl,hk⟩:=h;obtain⟨hlen,hr⟩:=hv;have VK:=Nat.mul_le_mul_right s hle;rw [Nat.add_mul]at VK;have key: ∀(A B C:Nat),B+A≤C→min A (C - B)=A:=by intro A B C h;omega
 refine⟨⟨by rw [List.length_take,List.length_drop,hlen];exact key _ _ _ VK,?_⟩,by cases a<;>simp [Value.ownBlock,Addr.add];try (split<;>rfl)⟩;rcases hr with⟨he,hz⟩ | ⟨g,o,cap,cur,he,hg,CZ,NZ,mG,C7⟩
 ·left;simp only [Value.slice.injEq]at he;obtain⟨rfl,_,rfl⟩:=he;have h0:(p.len.den ρ 0).toNat=0:=by omega
  refine⟨?_,h0⟩;rw [h0];simp only [Option.map_none,Value.slice.injEq,true_and];cases hm:p.mx with
  | none=>simp
  | some m=>
   have:=(h3 (m.den ρ 0) (by rw [hm];rfl)).2;simp only [Option.map_some,aee];omega
 ·right;simp only [Value.slice.injEq]at he;obtain⟨rfl,_,rfl⟩:=he;simp only [Option.map_some,dV];have OQ:((p.mx.map fun m=>m.den ρ 0).map ag).getD c≤c:=by
   cases hm:p.mx with
   | none=>exact Nat.le_refl _
   | some m=>
    have:=(h3 (m.den ρ 0) (by rw [hm];rfl)).2;simp only [Option.map_some,aee];omega
  have Fy:(p.lo.den ρ 0).toNat+(p.len.den ρ 0).toNat≤((p.mx.map fun m=>m.den ρ 0).map ag).getD c:=by
   cases hm:p.mx with
   | none=>simp only [Option.map_none,Option.getD_none];omega
   | some m=>
    have:=(h3 (m.den ρ 0) (by rw [hm];rfl)).1;simp only [Option.map_some,aee];omega
  obtain⟨C,hC⟩: ∃C,C=((p.mx.map fun m=>m.den ρ 0).map ag).getD c:=⟨_,rfl⟩;rw [←hC]at hk OQ Fy ⊢;have q1:(p.len.den ρ 0).toNat≤C - (p.lo.den ρ 0).toNat:=Nat.le_sub_of_add_le (by rw [Nat.add_comm];exact Fy);have q2:C - (p.lo.den ρ 0).toNat≤maxLen:=Nat.le_trans (Nat.sub_le _ _) (Nat.le_trans OQ NZ);refine⟨g,o+k,C - (p.lo.den ρ 0).toNat,cur,rfl,hg,q1,q2,fun mg=>?_,?_⟩
  ·have cL:=hk (.inl (by omega));have:=mG (by omega);have e1:(C - (p.lo.den ρ 0).toNat)*s+(p.lo.den ρ 0).toNat*s=C*s:=by rw [←Nat.add_mul];congr 1;omega
   have e2:C*s≤c*s:=Nat.mul_le_mul_right _ OQ;omega
  ·by_cases h0:(p.len.den ρ 0).toNat=0
   ·rw [h0,Nat.zero_mul,List.take_zero,List.take_zero]
   ·have cL:=hk (.inl (by omega));rw [←C7,List.drop_take,List.take_take,List.drop_drop,cL,Nat.min_eq_left (by omega)]
theorem fV{n:E}{bytes:Nat}(h:(oc n bytes).prop ρ)(h0:0≤n.den ρ 0):
  (n.den ρ 0).toNat*bytes≤140737488355328∧(n.den ρ 0).toNat≤140737488355328:=by
 unfold oc at h;have h:=of_decide_eq_true (gp ρ _ _▸(BE.bX ρ _).2 h);rw [fl]at h;simp only [E.den]at h;obtain⟨k,hk⟩:=Int.eq_ofNat_of_zero_le h0;rw [hk]at h ⊢;rw [←Int.natCast_mul]at h;have h:k*max 1 bytes≤140737488355328:=by omega
 have h2:k*bytes≤k*max 1 bytes:=Nat.mul_le_mul_left _ (Nat.le_max_right _ _);have h3:k*1≤k*max 1 bytes:=Nat.mul_le_mul_left _ (Nat.le_max_left _ _);simp only [Int.toNat_natCast];omega
theorem pO(n L:Nat)(aH:List bS)(h:L≤n):(aN ρ n aH).take (L*bT aH)=aN ρ L aH:=by
 have:=sf (cY ρ aH) n 0 L (by omega);rw [Nat.zero_mul,List.drop_zero]at this;rw [cg,this,cg];exact cy fun i _=>by rw [Nat.zero_add]
theorem ur(hT:bC P T=true){ts:TypeId}{tt:TI}(eN:aU T ts=some tt){x y:SV}{res:gx}(h:rE T hp nv tt.k x y=some res)
  (cJ:Reads hp ρ w S res.rd) (bV: ∀b∈res.vcs,b.prop ρ) (ty:TypeId):
  Did P ρ w hp S nb nv ((do pure (.value (←ad2 #[ts,ts] ty #[x.val ρ,y.val ρ])):Sem Next).run P w) res:=by
 unfold rE at h;split at h
 ·rename_i t hk;split at h
  ·rename_i te gi;obtain⟨rfl,nQ⟩:=aG hT eN;obtain⟨rfl,cF⟩:=aG hT gi;have cL:=nQ.kind;rw [hk]at cL;have hu:=bI cL;obtain⟨i,hi,eL,s9,z,hz,hc⟩:=cF.info;have oK:z.cells.size=te.size:=by rw [←Array.length_toList,←hc ρ,bz,cF.zt]
   split at h
   ·rename_i sc iA;split at h
    ·cases h
    ·rename_i mg;have mg:0<te.size:=by omega
     split at h
     ·cases h;simp only at bV cJ;obtain⟨v1,v3⟩:=bB bV;obtain⟨v1,v2⟩:=bB v1;have v2:=a_ v2;simp only [E.den]at v2;obtain⟨b1,b2⟩:=fV (bytes:=te.bytes) (v3 _ (by simp)) v2;obtain⟨_,s2,s3⟩:=fe iA cJ v1 v2;obtain⟨v',w',r1,r2,r3,r5⟩:=mB (P:=P) tt.t ty te.t i z te.size te.bytes hu hi hz eL s9 oK mg (.slice none 0 0) 0 [] (js w te.t te.size)
       _ _ _ s3 (by rw [cZ,s2]) (nN _ _) (by unfold maxLen;omega) (by rw [Nat.zero_add];exact b1)
      refine⟨te.t,te.size,_,sc.aH,v',w',fun k=>v'.ownBlock=some k,rfl,rfl,by simp only [SV.val,adL,r1,adC,ad_],?_,⟨r3.os,r3.tape,r3.output,r3.size⟩,fun k hk=>r3.block k hk (by simp [Value.ownBlock]),⟨?_,fun k=>⟨fun h=>⟨h,.inl rfl⟩,fun h=>h.1⟩⟩,?_⟩
      ·rcases r2.2 with⟨rfl,_⟩ | ⟨g,o,cap,cur,rfl,_⟩<;>rfl
      ·simp only [if_true];simpa using r2
      ·intro k hk;rcases r5 with h | h
       ·rw [hk]at h;cases h
       ·rw [hk]at h;cases h;exact⟨Nat.le_refl _,gn r2 hk⟩
     ·rename_i b ix s n m;split at h
      ·rename_i x q hx hq;split at h
       ·rename_i hc;obtain⟨ZR,rfl,rfl⟩:=hc;rw [adw]at h;obtain⟨aT,dP,rfl⟩:=h;simp only at bV cJ;obtain⟨v1,v4⟩:=bB bV;obtain⟨v1,v3⟩:=bB v1;obtain⟨v1,v2⟩:=bB v1;have v3:=a_ v3;simp only [E.den]at v3;have hqn:sc.n.den ρ 0=((q+1:Nat):Int):=cl (ρ:=ρ) hq;obtain⟨_,x2,x3⟩:=fe (te:=te) hx (fun j hj=>cJ j (List.mem_append_left _ hj)) v1 (by rw [ZR];exact v3);obtain⟨_,s2,s3⟩:=fe (te:=te) iA (fun j hj=>cJ j (List.mem_append_right _ hj)) v2 (by omega);rw [ZR]at x3;have sm:(dp n sc.n).den ρ 0=n.den ρ 0+sc.n.den ρ 0:=bH ..;obtain⟨b1,b2⟩:=fV (n:=dp n sc.n) (bytes:=te.bytes) (v4 _ (by simp)) (by rw [sm];omega);have k_:((dp n sc.n).den ρ 0).toNat=(n.den ρ 0).toNat+(sc.n.den ρ 0).toNat:=by rw [sm];omega
        rw [k_]at b1 b2;obtain⟨ya,yc,Yz,VL,YA⟩:=s3;have hya: ∃a,ya=some a:=by
         cases ya with
         | none=>have:=VL rfl;omega
         | some a=>exact⟨a,rfl⟩
        obtain⟨ya,rfl⟩:=hya;obtain⟨xa,xc,Gq,_,YB⟩:=x3;have VM:(SV.sl b ix te.size n n).val ρ= .slice (some ⟨ρ.bv.getD b 0,(ix.den ρ 0).toNat*te.size,none⟩) (n.den ρ 0).toNat (n.den ρ 0).toNat:=rfl;rw [VM]at Gq;simp only [Value.slice.injEq]at Gq;obtain⟨NW,_,_⟩:=Gq;obtain⟨v',w',r1,r2,r3,r5⟩:=om (P:=P) (w:=w) tt.t ty te.t i z te.size te.bytes hu hi hz eL s9 oK ⟨ρ.bv.getD b 0,(ix.den ρ 0).toNat*te.size,none⟩ (n.den ρ 0).toNat _ (by rw [cZ,x2])
         (fun j u hj=>YB _ NW.symm j u hj) ya (sc.n.den ρ 0).toNat yc (by omega) _ (by rw [cZ,s2]) (fun j u hj=>YA _ rfl j u hj) (by unfold maxLen;omega) b1
        have eO:aN ρ ((dp n sc.n).den ρ 0).toNat aT=aN ρ (n.den ρ 0).toNat x.aH++aN ρ (sc.n.den ρ 0).toNat sc.aH:=by
         rw [k_];obtain⟨c1,c2,c3⟩:=fc (ρ:=ρ) v3 (by omega) dP;rw [cg,fq];congr 1
         ·exact cy fun k hk=>by rw [c3,if_neg (by omega)]
         ·exact cy fun k hk=>by rw [c3,if_pos (by omega)];congr 1;omega
        refine⟨te.t,te.size,_,aT,v',w',fun k=>v'.ownBlock=some k,rfl,rfl,by rw [VM,Yz];simp only [adL,r1,adC,ad_],?_,⟨r3.os,r3.tape,r3.output,r3.size⟩,fun k hk=>r3.block k hk (by simp),⟨?_,fun k=>⟨fun h=>⟨h,.inl rfl⟩,fun h=>h.1⟩⟩,?_⟩
        ·rcases r2.2 with⟨rfl,_⟩ | ⟨g,o,cap,cur,rfl,_⟩<;>rfl
        ·simp only [if_true];rw [eO,k_];exact r2
        ·intro k hk;rw [hk]at r5;cases r5;exact⟨Nat.le_refl _,gn r2 hk⟩
       ·cases h
      ·cases h
     ·split at h
      ·rename_i r hr;split at h
       ·rename_i gK;obtain⟨ht,hs,hw,Hq⟩:=gK;split at h
        ·split at h
         ·rename_i v lo mF s aT dP _ _;cases h;simp only at bV cJ;obtain⟨v1,v4⟩:=bB bV;obtain⟨v1,v3⟩:=bB v1;obtain⟨v1,v2⟩:=bB v1;have v3:=a_ v3;have v4:=a_ v4;simp only [E.den]at v3;rw [bH]at v4;have Th:Reads hp ρ w S [r.j]:=fun j hj=>cJ j (by simp at hj;simp [hj])
          obtain⟨hj,_⟩:=ek hr Th v1;have hS:=Th r.j (by simp) _ hj;obtain⟨_,s2,s3⟩:=fe (te:=te) iA (fun j hj=>cJ j (adB _ hj)) v2 v3;have hrv:r.v=v∧r.s=s∧r.p=⟨dp (.lit 0) lo,tz mF lo,none⟩∧r.vcs=(lM r.n ⟨.lit 0,r.n,none⟩ ⟨lo,mF,none⟩).2++[]:=by
           unfold eZ at hr;simp only at hr;split at hr
           ·split at hr
            ·rename_i ZS;cases hr;exact⟨rfl,ZS,rfl,rfl⟩
            ·cases hr
           ·cases hr
          obtain⟨rfl,rfl,kM,YC⟩:=hrv;have v1:=YC▸v1;rw [List.append_nil]at v1;obtain⟨_,k1,k2,_,a,N,C,hv,hN,hC,_⟩:=(k9.whole (ρ:=ρ) (s:=r.s) (n:=r.n) (mZ hS)).step _ v1;have hC:=hC rfl;simp only at k1 k2 hN hC;rw [Hq]at hS;have dD:(dp r.p.lo r.p.len).den ρ 0=mF.den ρ 0:=by
           rw [kM];simp only [bH,dX,E.den];omega
          obtain⟨c1,c2,c3⟩:=fc (ρ:=ρ) (by rw [dD];omega) v3 dP;rw [dD]at c3;have Nu:=xQ (f:=rowAt ρ r.aH) (g:=rowAt ρ sc.aH) (h:=rowAt ρ aT) (s:=r.s) (fun i=>by rw [cY];exact hw.symm) (r.n.den ρ 0).toNat (mF.den ρ 0).toNat (sc.n.den ρ 0).toNat
           (by omega) c3
          have rJ:(aN ρ (sc.n.den ρ 0).toNat sc.aH).length=(sc.n.den ρ 0).toNat*r.s:=by rw [cZ,s2,hs]
          have Ti:(mF.den ρ 0).toNat*r.s+(aN ρ (sc.n.den ρ 0).toNat sc.aH).length≤(aN ρ (r.n.den ρ 0).toNat r.aH).length:=by
           rw [rJ,cZ,←hw,←Nat.add_mul];exact Nat.mul_le_mul_right _ (by omega)
          obtain⟨w',g1,g2,g3,g4,g5,g6⟩:=Bb (P:=P) hS ((mF.den ρ 0).toNat*r.s) Ti (nN _ _) ((a.getD ⟨0,0,none⟩).add ((mF.den ρ 0).toNat*r.s)) (fun IU=>by
           rw [hv];cases a with
           | none=>
            exfalso;obtain⟨_,_,he,ke,_⟩:=(BQ hS).1;rw [hv]at he;cases he;have:=ke rfl;rw [rJ]at IU;have:(sc.n.den ρ 0).toNat=0:=by omega
            rw [this,Nat.zero_mul]at IU;omega
           | some a=>rfl)
          refine⟨w',.inl ?_,⟨⟨_,hj,by rw [Hq];rfl⟩,rfl,g2,g3,g4,?_⟩⟩
          ·have gO:=yY (P:=P) (w:=w) (w':=w') tt.t ty te.t i hu hi (if C=(lo.den ρ 0).toNat then a else a.map (·.add ((lo.den ρ 0).toNat*r.s))) ((mF.den ρ 0).toNat - (lo.den ρ 0).toNat) (C - (lo.den ρ 0).toNat)
            (y.val ρ) (sc.n.den ρ 0).toNat (aN ρ (sc.n.den ρ 0).toNat sc.aH) s3 (by rw [rJ,eL,hs]) (by
             have:(r.n.den ρ 0).toNat≤C:=by
              obtain⟨_,_,he,hle⟩:=mZ hS;rw [hv]at he;cases he;exact hle
             omega) (fun ad oC=>by
             cases a with
             | none=>simp at oC
             | some a0=>
              by_cases R4:(sc.n.den ρ 0).toNat=0
              ·have ke:aN ρ (sc.n.den ρ 0).toNat sc.aH=[]:=adR (by rw [rJ,R4,Nat.zero_mul]);rw [ke]at g6 ⊢;rw [g6 rfl];rfl
              ·have hle:(r.n.den ρ 0).toNat≤C:=by
                obtain⟨_,_,he,hle⟩:=mZ hS;rw [hv]at he;cases he;exact hle
               rw [if_neg (by omega)]at oC;simp only [Option.map_some,adv]at oC;subst oC;rw [c9,eL,←hs,←Nat.add_mul,show(lo.den ρ 0).toNat+((mF.den ρ 0).toNat - (lo.den ρ 0).toNat)=(mF.den ρ 0).toNat by omega];exact g1) (fun Fz=>by
             apply g6;cases a with
             | some a0=>split at Fz<;>simp at Fz
             | none=>
              obtain⟨_,_,he,ke,_⟩:=(BQ hS).1;rw [hv]at he;cases he;have:=ke rfl;apply adR;rw [rJ,show(sc.n.den ρ 0).toNat=0 by omega,Nat.zero_mul])
           have e1:(SV.jP r.v [⟨lo,mF,none⟩] r.s).val ρ= .slice (if C=(lo.den ρ 0).toNat then a else a.map (·.add ((lo.den ρ 0).toNat*r.s))) ((mF.den ρ 0).toNat - (lo.den ρ 0).toNat) (C - (lo.den ρ 0).toNat):=by
            simp only [SV.val,cN,hv];rfl
           have e2:(SV.jP r.v [⟨lo,dp mF sc.n,none⟩] r.s).val ρ= .slice (if C=(lo.den ρ 0).toNat then a else a.map (·.add ((lo.den ρ 0).toNat*r.s))) ((mF.den ρ 0).toNat - (lo.den ρ 0).toNat+(sc.n.den ρ 0).toNat) (C - (lo.den ρ 0).toNat):=by
            simp only [SV.val,cN,hv,bH];show Value.slice _ _ _=_;congr 1;omega
           simp only [adL,e1,gO,adC,ad_,e2]
          ·simp only [Ck.den];rw [cg,Nu];rw [rJ]at g5;rw [←ht];exact g5
         ·cases h
        ·split at h
         ·rename_i rc PQ;split at h
          ·rename_i aT dP;cases h;simp only at bV cJ;obtain⟨v1,v5⟩:=bB bV;obtain⟨v1,v4⟩:=bB v1;obtain⟨v1,v3⟩:=bB v1;obtain⟨v1,v2⟩:=bB v1;have v3:=a_ v3;have v4:=a_ v4;simp only [E.den]at v3 v4;have Th:Reads hp ρ w S [r.j]:=fun j hj=>cJ j (by simp at hj;simp [hj])
           obtain⟨hj,dz⟩:=ek hr Th v1;have hS:=Th r.j (by simp) _ hj;rw [Hq]at hS;obtain⟨_,s2,s3⟩:=fe (te:=te) iA (fun j hj=>cJ j (adB _ hj)) v2 v4;have sm:(dp r.p.len sc.n).den ρ 0=r.p.len.den ρ 0+sc.n.den ρ 0:=bH ..;obtain⟨b1,b2⟩:=fV (n:=dp r.p.len sc.n) (bytes:=te.bytes) (v5 _ (by simp)) (by rw [sm];omega);have k_:((dp r.p.len sc.n).den ρ 0).toNat=(r.p.len.den ρ 0).toNat+(sc.n.den ρ 0).toNat:=by rw [sm];omega
           rw [k_]at b1 b2;obtain⟨cr,kf⟩:=hS;simp only [if_true]at cr;obtain⟨o1,o2⟩:=vF dz v3 cr;have WH:=dz.hi;have O5:=dz.lo;obtain⟨e1,e2⟩:=iT (ρ:=ρ) dz.lo PQ;have VN:((aN ρ (r.n.den ρ 0).toNat r.aH).drop ((r.p.lo.den ρ 0).toNat*r.s)).take ((r.p.len.den ρ 0).toNat*r.s)=aN ρ (r.p.len.den ρ 0).toNat rc:=by
            rw [cg,hw,sf (cY ρ r.aH) _ _ _ (by omega),cg];exact cy fun i _=>(e2 i).symm
           rw [VN]at o1;obtain⟨v',w',r1,r2,r3,r5⟩:=mB (P:=P) tt.t ty te.t i z te.size te.bytes hu hi hz eL s9 oK mg (x.val ρ) (r.p.len.den ρ 0).toNat _ (by rw [←ht,←hs];exact o1)
            _ _ _ s3 (by rw [cZ,s2]) (nN _ _) (by unfold maxLen;omega) b1
           have eO:aN ρ ((dp r.p.len sc.n).den ρ 0).toNat aT=aN ρ (r.p.len.den ρ 0).toNat rc++aN ρ (sc.n.den ρ 0).toNat sc.aH:=by
            rw [k_];split at dP
            ·rename_i HS;cases dP;rw [HS];simp [E.den,aN,aK]
            ·obtain⟨c1,c2,c3⟩:=fc (ρ:=ρ) v3 v4 dP;rw [cg,fq];congr 1
             ·exact cy fun k hk=>by rw [c3,if_neg (by omega)]
             ·exact cy fun k hk=>by rw [c3,if_pos (by omega)];congr 1;omega
           refine⟨te.t,r.s,_,aT,v',w',fun k=>v'.ownBlock=some k,rfl,rfl,by simp only [adL,r1,adC,ad_],?_,⟨_,hj,by rw [Hq];rfl⟩,⟨r3.os,r3.tape,r3.output,r3.size⟩,?_,⟨?_,fun k=>⟨fun h=>⟨h,.inl rfl⟩,fun h=>h.1⟩⟩,?_⟩
           ·rcases r2.2 with⟨rfl,_⟩ | ⟨g,o,cap,cur,rfl,_⟩<;>rfl
           ·intro k hk hn;refine r3.block k hk fun he=>hn ((kf k).2 ⟨?_,.inl rfl⟩)
            rw [←o2,←he]
           ·simp only [if_true];rw [eO,k_,hs];exact r2
           ·intro k hk;rcases r5 with h | h
            ·left;rw [kf k,←o2,←h];exact⟨hk,.inl rfl⟩
            ·right;rw [hk]at h;cases h;exact⟨Nat.le_refl _,gn r2 hk⟩
          ·cases h
         ·cases h
       ·cases h
      ·cases h
   ·cases h
  ·cases h
 ·cases h
end
end Go.RX
