/- Executor. -/
import Derived.Test.YtphemenngjkfbaaRxOc
open Go.Builtin renaming append_ → ad2
open Go.Result renaming andThen_ok → adR
open Go.Sem renaming run_bind → adV, run_pure → aeb
open Int renaming toNat → ag
open List renaming append_nil → adW, eq_nil_of_length_eq_zero → adZ, mem_cons_of_mem → adP
open Option renaming getD_some → aes, map_eq_some_iff → adM
open Option.some renaming injEq → adK
namespace Go.RX
section
variable {P:Program} {ρ:Env} {w:World} {look:Nat→Option SV} {bK:Operand→Value} {hp:List Ck} {S:Nat→Nat→Prop} {nb nv:Nat} {T:List TI}
theorem BA{t s n:Nat}{v:Value}{cs vs:List Value}{S:Nat→Prop}(h:(aB true t s v n cs).p w S)(c:Nat)(hl:c+vs.length≤cs.length)
  (h1: ∀u∈vs,u.oneCell'=true) (a:Addr) (ha:0<vs.length→eC v c= .pointer (some a)):
  ∃w',(storeCells a vs).run P w= .ok () w'∧fQ w w'∧w'.heap.size=w.heap.size∧
   (∀k,¬S k→w'.heap[k]? =w.heap[k]?)∧(aB true t s v n (cs.take c++vs++cs.drop (c+vs.length))).p w' S∧(vs=[]→w'=w):=by
 cases vs with
 | nil=>
  refine⟨w,rfl,fQ.refl w,rfl,fun _ _=>rfl,?_,fun _=>rfl⟩;simpa using h
 | cons u r=>
  obtain⟨g,o,w',g1,g2,g3,g4,g5,g6,g7⟩:=AO (P:=P) h c hl (by simp) h1;have:=ha (by simp);rw [g1]at this;cases this;exact⟨w',g3,g4,g5,fun k hk=>g6 k (fun e=>hk (e▸g2)),g7,by simp⟩
theorem wu{x:Value}{m s:Nat}{news:List Value}(h:World.wq w x m news)(hl:news.length=m*s):
  (Builtin.lenOf x).run P w= .ok m w∧∀k,k≤m→(Builtin.firstCells s k x).run P w= .ok (news.take (k*s)).toArray w:=by
 obtain⟨a,c,rfl,kG,hr⟩:=h;refine⟨rfl,fun k hk=>?_⟩;cases a with
 | none=>
  have hm:=kG rfl;subst hm;have:news=[]:=adZ (by simpa using hl);subst this;simp [Builtin.firstCells]
 | some a=>
  have QN:k*s≤m*s:=Nat.mul_le_mul_right _ hk;have:=run_loadCells_list (P:=P) w a (news.take (k*s)) (fun j v hv=>by
   rw [List.getElem?_take]at hv;split at hv
   ·exact hr a rfl j v hv
   ·cases hv)
  rw [List.length_take,hl,Nat.min_eq_left QN]at this;simpa [Builtin.firstCells] using this
theorem nm(t ty e:TypeId)(i:TypeInfo)(z:Value)(size bytes:Nat)(ht:P.underlying t=some (.slice e))(hi:P.info? e=some i)(hz:i.zero=some z)
  (iZ:i.size=size) (uu:i.bytes=bytes) (pz:z.cells.size=size) (eV:0<size)
  (v:Value) (n:Nat) (xs:List Value) (cE:w.hY e size v n xs) (y:Value) (m:Nat) (news:List Value) (hy:World.wq w y m news) (hl:news.length=m*size)
  (h1: ∀u∈news,u.oneCell'=true) (O8:n+m≤maxLen) (oD:(n+m)*bytes≤140737488355328):
  ∃v' w',(ad2 #[t,t] ty #[v,y]).run P w= .ok v' w'∧w'.hY e size v' (n+m) (xs++news)∧w.grownBy w' v.ownBlock∧
   (v'.ownBlock=v.ownBlock∨v'.ownBlock=some w.heap.size):=by
 obtain⟨a,c,rfl,kG,hr⟩:=hy;cases a with
 | some a=>
  exact nk (P:=P) (w:=w) t ty e i z size bytes ht hi hz iZ uu pz eV v n xs cE a m c news hl (hr a rfl) h1 O8 oD
 | none=>
  have hm:=kG rfl;subst hm;have:news=[]:=adZ (by simpa using hl);subst this;refine⟨v,w,?_,by simpa using cE,⟨rfl,rfl,rfl,Nat.le_refl _,fun _ _ _=>rfl⟩,.inl rfl⟩;rcases cE.2 with⟨rfl,rfl⟩ | ⟨g,o,cap,cur,rfl,_,Dv,_⟩
  ·simp [ad2,run_underlying ht,sizeOf,typeInfo,hi,Builtin.lenOf,Builtin.firstCells]
  ·simp [ad2,run_underlying ht,sizeOf,typeInfo,hi,Builtin.lenOf,Builtin.firstCells,Dv,storeCells]
theorem zJ(t ty e:TypeId)(i:TypeInfo)(ht:P.underlying t=some (.slice e))(hi:P.info? e=some i)(a:Option Addr)(N C:Nat)(y:Value)(m:Nat)(news:List Value)
  (hy:World.wq w y m news) (hl:news.length=m*i.size) (sb:N+m≤C) {w':World} (hs: ∀ad,a=some ad→(storeCells (ad.add (N*i.size)) news).run P w= .ok () w') (hn:a=none→w'=w):
  (ad2 #[t,t] ty #[.slice a N C,y]).run P w= .ok (.slice a (N+m) C) w':=by
 obtain⟨q1,q2⟩:=wu (P:=P) hy hl;have q2:=q2 m (Nat.le_refl _);rw [List.take_of_length_le (by omega)]at q2;cases a with
 | none=>
  have:=hn rfl;subst this;simp [ad2,run_underlying ht,sizeOf,typeInfo,hi,q1,q2,sb]
 | some ad=>
  have:=hs ad rfl;simp [ad2,run_underlying ht,sizeOf,typeInfo,hi,q1,q2,sb,this]
theorem qf{t s:Nat}{v x:Value}{n:E}{p:Part}{cs:List Value}(h:kM ρ s v x n p)(hl:0≤p.len.den ρ 0)
  (hv:w.hY t s v (n.den ρ 0).toNat cs):w.hY t s x (p.len.den ρ 0).toNat ((cs.drop ((p.lo.den ρ 0).toNat*s)).take ((p.len.den ρ 0).toNat*s))∧x.ownBlock=v.ownBlock:=by
 have hle:(p.lo.den ρ 0).toNat+(p.len.den ρ 0).toNat≤(n.den ρ 0).toNat:=by
  have h1:=h.lo;have h2:=h.hi;clear hv h;omega
 obtain⟨h1,h2,h3,a,c,k,rfl,hc,rfl,hk⟩:=h;obtain⟨hlen,hr⟩:=hv;have V5:=Nat.mul_le_mul_right s hle;rw [Nat.add_mul]at V5;have key: ∀(A B C:Nat),B+A≤C→min A (C - B)=A:=by intro A B C h;omega
 refine⟨⟨by rw [List.length_take,List.length_drop,hlen];exact key _ _ _ V5,?_⟩,by cases a<;>simp [Value.ownBlock,Addr.add];try (split<;>rfl)⟩;rcases hr with⟨he,hz⟩ | ⟨g,o,cap,cur,he,hg,Dv,Pn,m_,zZ⟩
 ·left;simp only [Value.slice.injEq]at he;obtain⟨rfl,_,rfl⟩:=he;have h0:(p.len.den ρ 0).toNat=0:=by omega
  refine⟨?_,h0⟩;rw [h0];simp only [Option.map_none,Value.slice.injEq,true_and];cases hm:p.mx with
  | none=>simp
  | some m=>
   have:=(h3 (m.den ρ 0) (by rw [hm];rfl)).2;simp only [Option.map_some,aes];omega
 ·right;simp only [Value.slice.injEq]at he;obtain⟨rfl,_,rfl⟩:=he;simp only [Option.map_some,eD];have Q_:((p.mx.map fun m=>m.den ρ 0).map ag).getD c≤c:=by
   cases hm:p.mx with
   | none=>exact Nat.le_refl _
   | some m=>
    have:=(h3 (m.den ρ 0) (by rw [hm];rfl)).2;simp only [Option.map_some,aes];omega
  have DU:(p.lo.den ρ 0).toNat+(p.len.den ρ 0).toNat≤((p.mx.map fun m=>m.den ρ 0).map ag).getD c:=by
   cases hm:p.mx with
   | none=>simp only [Option.map_none,Option.getD_none];omega
   | some m=>
    have:=(h3 (m.den ρ 0) (by rw [hm];rfl)).1;simp only [Option.map_some,aes];omega
  obtain⟨C,hC⟩: ∃C,C=((p.mx.map fun m=>m.den ρ 0).map ag).getD c:=⟨_,rfl⟩;rw [←hC]at hk Q_ DU ⊢;have q1:(p.len.den ρ 0).toNat≤C - (p.lo.den ρ 0).toNat:=Nat.le_sub_of_add_le (by rw [Nat.add_comm];exact DU);have q2:C - (p.lo.den ρ 0).toNat≤maxLen:=Nat.le_trans (Nat.sub_le _ _) (Nat.le_trans Q_ Pn);refine⟨g,o+k,C - (p.lo.den ρ 0).toNat,cur,rfl,hg,q1,q2,fun wH=>?_,?_⟩
  ·have cT:=hk (.inl (by omega));have:=m_ (by omega);have e1:(C - (p.lo.den ρ 0).toNat)*s+(p.lo.den ρ 0).toNat*s=C*s:=by rw [←Nat.add_mul];congr 1;omega
   have e2:C*s≤c*s:=Nat.mul_le_mul_right _ Q_;omega
  ·by_cases h0:(p.len.den ρ 0).toNat=0
   ·rw [h0,Nat.zero_mul,List.take_zero,List.take_zero]
   ·have cT:=hk (.inl (by omega));rw [←zZ,List.drop_take,List.take_take,List.drop_drop,cT,Nat.min_eq_left (by omega)]
theorem gC{n:E}{bytes:Nat}(h:(oW n bytes).prop ρ)(h0:0≤n.den ρ 0):
  (n.den ρ 0).toNat*bytes≤140737488355328∧(n.den ρ 0).toNat≤140737488355328:=by
 unfold oW at h;have h:=of_decide_eq_true (gP ρ _ _▸(BE.bY ρ _).2 h);rw [fR]at h;simp only [E.den]at h;obtain⟨k,hk⟩:=Int.eq_ofNat_of_zero_le h0;rw [hk]at h ⊢;rw [←Int.natCast_mul]at h;have h:k*max 1 bytes≤140737488355328:=by omega
 have h2:k*bytes≤k*max 1 bytes:=Nat.mul_le_mul_left _ (Nat.le_max_right _ _);have h3:k*1≤k*max 1 bytes:=Nat.mul_le_mul_left _ (Nat.le_max_left _ _);simp only [Int.toNat_natCast];omega
theorem qv(n L:Nat)(aA:List bV)(h:L≤n):(aF ρ n aA).take (L*bX aA)=aF ρ L aA:=by
 have:=ui (dj ρ aA) n 0 L (by omega);rw [Nat.zero_mul,List.drop_zero]at this;rw [cy,this,cy];exact cH fun i _=>by rw [Nat.zero_add]
theorem vw(hT:bw P T=true){ts:TypeId}{tt:TI}(fk:aS T ts=some tt){x y:SV}{res:gU}(h:sQ T hp nv tt.k x y=some res)
  (cU:Reads hp ρ w S res.rd) (cb: ∀b∈res.vcs,b.prop ρ) (ty:TypeId):
  sV P ρ w hp S nb nv ((do pure (.value (←ad2 #[ts,ts] ty #[x.val ρ,y.val ρ])):Sem Next).run P w) res:=by
 unfold sQ at h;split at h
 ·rename_i t hk;split at h
  ·rename_i te gK;obtain⟨rfl,oH⟩:=ay hT fk;obtain⟨rfl,cN⟩:=ay hT gK;have cT:=oH.kind;rw [hk]at cT;have hu:=bL cT;obtain⟨i,hi,eV,uu,z,hz,hc⟩:=cN.info;have pz:z.cells.size=te.size:=by rw [←Array.length_toList,←hc ρ,bp,cN.Aa]
   split at h
   ·rename_i sc iM;split at h
    ·cases h
    ·rename_i wH;have wH:0<te.size:=by omega
     split at h
     ·cases h;simp only at cb cU;obtain⟨v1,v3⟩:=bu cb;obtain⟨v1,v2⟩:=bu v1;have v2:=bc v2;simp only [E.den]at v2;obtain⟨b1,b2⟩:=gC (bytes:=te.bytes) (v3 _ (by simp)) v2;obtain⟨_,s2,s3⟩:=fE iM cU v1 v2;obtain⟨v',w',r1,r2,r3,r5⟩:=nm (P:=P) tt.t ty te.t i z te.size te.bytes hu hi hz eV uu pz wH (.slice none 0 0) 0 [] (lG w te.t te.size)
       _ _ _ s3 (by rw [dp,s2]) (oI _ _) (by unfold maxLen;omega) (by rw [Nat.zero_add];exact b1)
      refine⟨te.t,te.size,_,sc.aA,v',w',fun k=>v'.ownBlock=some k,rfl,rfl,by simp only [SV.val,adV,r1,adR,aeb],?_,⟨r3.os,r3.tape,r3.output,r3.size⟩,fun k hk=>r3.block k hk (by simp [Value.ownBlock]),⟨?_,fun k=>⟨fun h=>⟨h,.inl rfl⟩,fun h=>h.1⟩⟩,?_⟩
      ·rcases r2.2 with⟨rfl,_⟩ | ⟨g,o,cap,cur,rfl,_⟩<;>rfl
      ·simp only [if_true];simpa using r2
      ·intro k hk;rcases r5 with h | h
       ·rw [hk]at h;cases h
       ·rw [hk]at h;cases h;exact⟨Nat.le_refl _,gO r2 hk⟩
     ·rename_i b ix s n m;split at h
      ·rename_i x q hx hq;split at h
       ·rename_i hc;obtain⟨hxn,rfl,rfl⟩:=hc;rw [adM]at h;obtain⟨aR,ew,rfl⟩:=h;simp only at cb cU;obtain⟨v1,v4⟩:=bu cb;obtain⟨v1,v3⟩:=bu v1;obtain⟨v1,v2⟩:=bu v1;have v3:=bc v3;simp only [E.den]at v3;have TJ:sc.n.den ρ 0=((q+1:Nat):Int):=cA (ρ:=ρ) hq;obtain⟨_,x2,x3⟩:=fE (te:=te) hx (fun j hj=>cU j (List.mem_append_left _ hj)) v1 (by rw [hxn];exact v3);obtain⟨_,s2,s3⟩:=fE (te:=te) iM (fun j hj=>cU j (List.mem_append_right _ hj)) v2 (by omega);rw [hxn]at x3;have yz:(dC n sc.n).den ρ 0=n.den ρ 0+sc.n.den ρ 0:=bH ..;obtain⟨b1,b2⟩:=gC (n:=dC n sc.n) (bytes:=te.bytes) (v4 _ (by simp)) (by rw [yz];omega);have lM:((dC n sc.n).den ρ 0).toNat=(n.den ρ 0).toNat+(sc.n.den ρ 0).toNat:=by rw [yz];omega
        rw [lM]at b1 b2;obtain⟨ya,yc,Yt,V6,Yu⟩:=s3;have hya: ∃a,ya=some a:=by
         cases ya with
         | none=>have:=V6 rfl;omega
         | some a=>exact⟨a,rfl⟩
        obtain⟨ya,rfl⟩:=hya;obtain⟨xa,xc,Gu,_,Ys⟩:=x3;have V7:(SV.sl b ix te.size n n).val ρ= .slice (some ⟨ρ.bv.getD b 0,(ix.den ρ 0).toNat*te.size,none⟩) (n.den ρ 0).toNat (n.den ρ 0).toNat:=rfl;rw [V7]at Gu;simp only [Value.slice.injEq]at Gu;obtain⟨O4,_,_⟩:=Gu;obtain⟨v',w',r1,r2,r3,r5⟩:=o7 (P:=P) (w:=w) tt.t ty te.t i z te.size te.bytes hu hi hz eV uu pz ⟨ρ.bv.getD b 0,(ix.den ρ 0).toNat*te.size,none⟩ (n.den ρ 0).toNat _ (by rw [dp,x2])
         (fun j u hj=>Ys _ O4.symm j u hj) ya (sc.n.den ρ 0).toNat yc (by omega) _ (by rw [dp,s2]) (fun j u hj=>Yu _ rfl j u hj) (by unfold maxLen;omega) b1
        have fl:aF ρ ((dC n sc.n).den ρ 0).toNat aR=aF ρ (n.den ρ 0).toNat x.aA++aF ρ (sc.n.den ρ 0).toNat sc.aA:=by
         rw [lM];obtain⟨c1,c2,c3⟩:=fD (ρ:=ρ) v3 (by omega) ew;rw [cy,fT];congr 1
         ·exact cH fun k hk=>by rw [c3,if_neg (by omega)]
         ·exact cH fun k hk=>by rw [c3,if_pos (by omega)];congr 1;omega
        refine⟨te.t,te.size,_,aR,v',w',fun k=>v'.ownBlock=some k,rfl,rfl,by rw [V7,Yt];simp only [adV,r1,adR,aeb],?_,⟨r3.os,r3.tape,r3.output,r3.size⟩,fun k hk=>r3.block k hk (by simp),⟨?_,fun k=>⟨fun h=>⟨h,.inl rfl⟩,fun h=>h.1⟩⟩,?_⟩
        ·rcases r2.2 with⟨rfl,_⟩ | ⟨g,o,cap,cur,rfl,_⟩<;>rfl
        ·simp only [if_true];rw [fl,lM];exact r2
        ·intro k hk;rw [hk]at r5;cases r5;exact⟨Nat.le_refl _,gO r2 hk⟩
       ·cases h
      ·cases h
     ·split at h
      ·rename_i r hr;split at h
       ·rename_i hG;obtain⟨ht,hs,hw,HN⟩:=hG;split at h
        ·split at h
         ·rename_i v lo nH s aR ew _ _ _;cases h;simp only at cb cU;obtain⟨v1,v4⟩:=bu cb;obtain⟨v1,v3⟩:=bu v1;obtain⟨v1,v2⟩:=bu v1;have v3:=bc v3;have v4:=bc v4;simp only [E.den]at v3;rw [bH]at v4;have TS:Reads hp ρ w S [r.j]:=fun j hj=>cU j (by simp at hj;simp [hj])
          obtain⟨hj,_⟩:=eM hr TS v1;have hS:=TS r.j (by simp) _ hj;obtain⟨_,s2,s3⟩:=fE (te:=te) iM (fun j hj=>cU j (adP _ hj)) v2 v3;have hrv:r.v=v∧r.s=s∧r.p=⟨dC (.lit 0) lo,rV nH lo,none⟩∧r.vcs=(gm r.n ⟨.lit 0,r.n,none⟩ ⟨lo,nH,none⟩).2++[]:=by
           unfold gf at hr;simp only at hr;split at hr
           ·split at hr
            ·rename_i hss;cases hr;exact⟨rfl,hss,rfl,rfl⟩
            ·cases hr
           ·cases hr
          obtain⟨rfl,rfl,jE,ZL⟩:=hrv;have v1:=ZL▸v1;rw [adW]at v1;obtain⟨_,k1,k2,_,a,N,C,hv,hN,hC,_⟩:=(kM.whole (ρ:=ρ) (s:=r.s) (n:=r.n) (ll hS)).step _ v1;have hC:=hC rfl;simp only at k1 k2 hN hC;rw [HN]at hS;have dM:(dC r.p.lo r.p.len).den ρ 0=nH.den ρ 0:=by
           rw [jE];simp only [bH,eE,E.den];omega
          obtain⟨c1,c2,c3⟩:=fD (ρ:=ρ) (by rw [dM];omega) v3 ew;rw [dM]at c3;have Mo:=zI (f:=rowAt ρ r.aA) (g:=rowAt ρ sc.aA) (h:=rowAt ρ aR) (s:=r.s) (fun i=>by rw [dj];exact hw.symm) (r.n.den ρ 0).toNat (nH.den ρ 0).toNat (sc.n.den ρ 0).toNat
           (by omega) c3
          have sX:(aF ρ (sc.n.den ρ 0).toNat sc.aA).length=(sc.n.den ρ 0).toNat*r.s:=by rw [dp,s2,hs]
          have TU:(nH.den ρ 0).toNat*r.s+(aF ρ (sc.n.den ρ 0).toNat sc.aA).length≤(aF ρ (r.n.den ρ 0).toNat r.aA).length:=by
           rw [sX,dp,←hw,←Nat.add_mul];exact Nat.mul_le_mul_right _ (by omega)
          obtain⟨w',g1,g2,g3,g4,g5,g6⟩:=BA (P:=P) hS ((nH.den ρ 0).toNat*r.s) TU (oI _ _) ((a.getD ⟨0,0,none⟩).add ((nH.den ρ 0).toNat*r.s)) (fun Jb=>by
           rw [hv];cases a with
           | none=>
            exfalso;obtain⟨_,_,he,kG,_⟩:=(CO hS).1;rw [hv]at he;cases he;have:=kG rfl;rw [sX]at Jb;have:(sc.n.den ρ 0).toNat=0:=by omega
            rw [this,Nat.zero_mul]at Jb;omega
           | some a=>rfl)
          refine⟨w',.inl ?_,⟨⟨_,hj,by rw [HN];rfl⟩,rfl,g2,g3,g4,?_⟩⟩
          ·have hZ:=zJ (P:=P) (w:=w) (w':=w') tt.t ty te.t i hu hi (if C=(lo.den ρ 0).toNat then a else a.map (·.add ((lo.den ρ 0).toNat*r.s))) ((nH.den ρ 0).toNat - (lo.den ρ 0).toNat) (C - (lo.den ρ 0).toNat)
            (y.val ρ) (sc.n.den ρ 0).toNat (aF ρ (sc.n.den ρ 0).toNat sc.aA) s3 (by rw [sX,eV,hs]) (by
             have:(r.n.den ρ 0).toNat≤C:=by
              obtain⟨_,_,he,hle⟩:=ll hS;rw [hv]at he;cases he;exact hle
             omega) (fun ad ry=>by
             cases a with
             | none=>simp at ry
             | some a0=>
              by_cases UL:(sc.n.den ρ 0).toNat=0
              ·have kG:aF ρ (sc.n.den ρ 0).toNat sc.aA=[]:=adZ (by rw [sX,UL,Nat.zero_mul]);rw [kG]at g6 ⊢;rw [g6 rfl];rfl
              ·have hle:(r.n.den ρ 0).toNat≤C:=by
                obtain⟨_,_,he,hle⟩:=ll hS;rw [hv]at he;cases he;exact hle
               rw [if_neg (by omega)]at ry;simp only [Option.map_some,adK]at ry;subst ry;rw [dr,eV,←hs,←Nat.add_mul,show(lo.den ρ 0).toNat+((nH.den ρ 0).toNat - (lo.den ρ 0).toNat)=(nH.den ρ 0).toNat by omega];exact g1) (fun FA=>by
             apply g6;cases a with
             | some a0=>split at FA<;>simp at FA
             | none=>
              obtain⟨_,_,he,kG,_⟩:=(CO hS).1;rw [hv]at he;cases he;have:=kG rfl;apply adZ;rw [sX,show(sc.n.den ρ 0).toNat=0 by omega,Nat.zero_mul])
           have e1:(SV.iC r.v [⟨lo,nH,none⟩] r.s).val ρ= .slice (if C=(lo.den ρ 0).toNat then a else a.map (·.add ((lo.den ρ 0).toNat*r.s))) ((nH.den ρ 0).toNat - (lo.den ρ 0).toNat) (C - (lo.den ρ 0).toNat):=by
            simp only [SV.val,c8,hv];rfl
           have e2:(SV.iC r.v [⟨lo,dC nH sc.n,none⟩] r.s).val ρ= .slice (if C=(lo.den ρ 0).toNat then a else a.map (·.add ((lo.den ρ 0).toNat*r.s))) ((nH.den ρ 0).toNat - (lo.den ρ 0).toNat+(sc.n.den ρ 0).toNat) (C - (lo.den ρ 0).toNat):=by
            simp only [SV.val,c8,hv,bH];show Value.slice _ _ _=_;congr 1;omega
           simp only [adV,e1,hZ,adR,aeb,e2]
          ·simp only [Ck.den];rw [cy,Mo];rw [sX]at g5;rw [←ht];exact g5
         ·cases h
        ·split at h
         ·rename_i rc hrc;split at h
          ·rename_i aR ew;cases h;simp only at cb cU;obtain⟨v1,v5⟩:=bu cb;obtain⟨v1,v4⟩:=bu v1;obtain⟨v1,v3⟩:=bu v1;obtain⟨v1,v2⟩:=bu v1;have v3:=bc v3;have v4:=bc v4;simp only [E.den]at v3 v4;have TS:Reads hp ρ w S [r.j]:=fun j hj=>cU j (by simp at hj;simp [hj])
           obtain⟨hj,dL⟩:=eM hr TS v1;have hS:=TS r.j (by simp) _ hj;rw [HN]at hS;obtain⟨_,s2,s3⟩:=fE (te:=te) iM (fun j hj=>cU j (adP _ hj)) v2 v4;have yz:(dC r.p.len sc.n).den ρ 0=r.p.len.den ρ 0+sc.n.den ρ 0:=bH ..;obtain⟨b1,b2⟩:=gC (n:=dC r.p.len sc.n) (bytes:=te.bytes) (v5 _ (by simp)) (by rw [yz];omega);have lM:((dC r.p.len sc.n).den ρ 0).toNat=(r.p.len.den ρ 0).toNat+(sc.n.den ρ 0).toNat:=by rw [yz];omega
           rw [lM]at b1 b2;obtain⟨cE,jH⟩:=hS;simp only [if_true]at cE;obtain⟨o1,o2⟩:=qf dL v3 cE;have XB:=dL.hi;have QZ:=dL.lo;obtain⟨e1,e2⟩:=jt (ρ:=ρ) dL.lo hrc;have V8:((aF ρ (r.n.den ρ 0).toNat r.aA).drop ((r.p.lo.den ρ 0).toNat*r.s)).take ((r.p.len.den ρ 0).toNat*r.s)=aF ρ (r.p.len.den ρ 0).toNat rc:=by
            rw [cy,hw,ui (dj ρ r.aA) _ _ _ (by omega),cy];exact cH fun i _=>(e2 i).symm
           rw [V8]at o1;obtain⟨v',w',r1,r2,r3,r5⟩:=nm (P:=P) tt.t ty te.t i z te.size te.bytes hu hi hz eV uu pz wH (x.val ρ) (r.p.len.den ρ 0).toNat _ (by rw [←ht,←hs];exact o1)
            _ _ _ s3 (by rw [dp,s2]) (oI _ _) (by unfold maxLen;omega) b1
           have fl:aF ρ ((dC r.p.len sc.n).den ρ 0).toNat aR=aF ρ (r.p.len.den ρ 0).toNat rc++aF ρ (sc.n.den ρ 0).toNat sc.aA:=by
            rw [lM];split at ew
            ·rename_i Ia;cases ew;rw [Ia];simp [E.den,aF,aH]
            ·obtain⟨c1,c2,c3⟩:=fD (ρ:=ρ) v3 v4 ew;rw [cy,fT];congr 1
             ·exact cH fun k hk=>by rw [c3,if_neg (by omega)]
             ·exact cH fun k hk=>by rw [c3,if_pos (by omega)];congr 1;omega
           refine⟨te.t,r.s,_,aR,v',w',fun k=>v'.ownBlock=some k,rfl,rfl,by simp only [adV,r1,adR,aeb],?_,⟨_,hj,by rw [HN];rfl⟩,⟨r3.os,r3.tape,r3.output,r3.size⟩,?_,⟨?_,fun k=>⟨fun h=>⟨h,.inl rfl⟩,fun h=>h.1⟩⟩,?_⟩
           ·rcases r2.2 with⟨rfl,_⟩ | ⟨g,o,cap,cur,rfl,_⟩<;>rfl
           ·intro k hk hn;refine r3.block k hk fun he=>hn ((jH k).2 ⟨?_,.inl rfl⟩)
            rw [←o2,←he]
           ·simp only [if_true];rw [fl,lM,hs];exact r2
           ·intro k hk;rcases r5 with h | h
            ·left;rw [jH k,←o2,←h];exact⟨hk,.inl rfl⟩
            ·right;rw [hk]at h;cases h;exact⟨Nat.le_refl _,gO r2 hk⟩
          ·cases h
         ·cases h
       ·cases h
      ·cases h
   ·cases h
  ·cases h
 ·cases h
end
end Go.RX
