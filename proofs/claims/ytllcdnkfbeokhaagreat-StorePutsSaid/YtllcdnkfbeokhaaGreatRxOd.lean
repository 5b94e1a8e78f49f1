/- Executor. -/
import Derived.Test.YtllcdnkfbeokhaaGreatM07
open Go.Builtin renaming append_ -> ayA
open Go.Result renaming andThen_ok -> ax0
open Go.Sem renaming run_bind -> ax9, run_pure -> ayj
open Int renaming toNat -> ag, toNat_natCast -> ax3
open List renaming eq_nil_of_length_eq_zero -> aye, mem_cons_of_mem -> axZ
open Option renaming getD_some -> ayG, map_eq_some_iff -> axV
open Option.some renaming injEq -> axU
namespace Go.RX
section
variable {P:Program} {ρ:Env} {w:World} {look:Nat->Option SV} {bF:Operand->Value} {hp:List Ck} {S:Nat->Nat->Prop} {nb nv:Nat} {T:List TI}
theorem Ee{t s n:Nat}{v:Value}{cs vs:List Value}{S:Nat->Prop}(h:(aA true t s v n cs).p w S)(c:Nat)(hl:c+vs.length<=cs.length)
  (h1: ∀u∈vs,u.oneCell'=true) (a:Addr) (ha:0<vs.length->gC v c= .pointer (some a)):
  ∃w',(storeCells a vs).run P w= .ok () w'/\jm w w'/\w'.heap.size=w.heap.size/\
   (∀k,¬S k->w'.heap[k]? =w.heap[k]?)/\(aA true t s v n (cs.take c++vs++cs.drop (c+vs.length))).p w' S/\(vs=[]->w'=w):=by
 cases vs with
 | nil=>
  refine⟨w,rfl,jm.refl w,rfl,λ_ _=>rfl,?_,λ_=>rfl⟩;simpa using h
 | cons u r=>
  obtain⟨g,o,w',g1,g2,g3,g4,g5,g6,g7⟩:=Du (P:=P) h c hl (by simp) h1;have:=ha (by simp);rw[g1]at this;cases this;exact⟨w',g3,g4,g5,λk hk=>g6 k (λe=>hk (e▸g2)),g7,by simp⟩
theorem zl{x:Value}{m s:Nat}{news:List Value}(h:World.yP w x m news)(hl:news.length=m*s):
  (Builtin.lenOf x).run P w= .ok m w/\∀k,k<=m->(Builtin.firstCells s k x).run P w= .ok (news.take (k*s)).toArray w:=by
 obtain⟨a,c,rfl,lD,hr⟩:=h;refine⟨rfl,λk hk=>?_⟩;cases a with
 | none=>
  have hm:=lD rfl;subst hm;have:news=[]:=aye (by simpa using hl);subst this;simp[Builtin.firstCells]
 | some a=>
  have hks:k*s<=m*s:=Nat.mul_le_mul_right _ hk;have:=run_loadCells_list (P:=P) w a (news.take (k*s)) (λj v hv=>by
   rw[List.getElem?_take]at hv;split at hv
   .exact hr a rfl j v hv
   .cases hv)
  rw[List.length_take,hl,Nat.min_eq_left hks]at this;simpa[Builtin.firstCells] using this
theorem uo(t ty e:TypeId)(i:TypeInfo)(z:Value)(size bytes:Nat)(ht:P.underlying t=some (.slice e))(hi:P.info? e=some i)(hz:i.zero=some z)
  (fY:i.size=size) (FV:i.bytes=bytes) (xD:z.cells.size=size) (jR:0<size)
  (v:Value) (n:Nat) (xs:List Value) (eX:w.mW e size v n xs) (y:Value) (m:Nat) (news:List Value) (hy:World.yP w y m news) (hl:news.length=m*size)
  (h1: ∀u∈news,u.oneCell'=true) (YP:n+m<=maxLen) (xF:(n+m)*bytes<=140737488355328):
  ∃v' w',(ayA #[t,t] ty #[v,y]).run P w= .ok v' w'/\w'.mW e size v' (n+m) (xs++news)/\w.grownBy w' v.ownBlock/\
   (v'.ownBlock=v.ownBlock\/v'.ownBlock=some w.heap.size):=by
 obtain⟨a,c,rfl,lD,hr⟩:=hy;cases a with
 | some a=>
  exact pC (P:=P) (w:=w) t ty e i z size bytes ht hi hz fY FV xD jR v n xs eX a m c news hl (hr a rfl) h1 YP xF
 | none=>
  have hm:=lD rfl;subst hm;have:news=[]:=aye (by simpa using hl);subst this;refine⟨v,w,?_,by simpa using eX,⟨rfl,rfl,rfl,Nat.le_refl _,λ_ _ _=>rfl⟩,.inl rfl⟩;rcases eX.2 with⟨rfl,rfl⟩ | ⟨g,o,cap,cur,rfl,_,Jr,_⟩
  .simp [ayA,run_underlying ht,sizeOf,typeInfo,hi,Builtin.lenOf,Builtin.firstCells]
  .simp [ayA,run_underlying ht,sizeOf,typeInfo,hi,Builtin.lenOf,Builtin.firstCells,Jr,storeCells]
theorem Cr(t ty e:TypeId)(i:TypeInfo)(ht:P.underlying t=some (.slice e))(hi:P.info? e=some i)(a:Option Addr)(N C:Nat)(y:Value)(m:Nat)(news:List Value)
  (hy:World.yP w y m news) (hl:news.length=m*i.size) (si:N+m<=C) {w':World} (hs: ∀ad,a=some ad->(storeCells (ad.add (N*i.size)) news).run P w= .ok () w') (hn:a=none->w'=w):
  (ayA #[t,t] ty #[.slice a N C,y]).run P w= .ok (.slice a (N+m) C) w':=by
 obtain⟨q1,q2⟩:=zl (P:=P) hy hl;have q2:=q2 m (Nat.le_refl _);rw[List.take_of_length_le (by omega)]at q2;cases a with
 | none=>
  have:=hn rfl;subst this;simp[ayA,run_underlying ht,sizeOf,typeInfo,hi,q1,q2,si]
 | some ad=>
  have:=hs ad rfl;simp[ayA,run_underlying ht,sizeOf,typeInfo,hi,q1,q2,si,this]
theorem zm{t s:Nat}{v x:Value}{n:E}{p:Part}{cs:List Value}(h:oh ρ s v x n p)(hl:0<=p.len.den ρ 0)
  (hv:w.mW t s v (n.den ρ 0).toNat cs):w.mW t s x (p.len.den ρ 0).toNat ((cs.drop ((p.lo.den ρ 0).toNat*s)).take ((p.len.den ρ 0).toNat*s))/\x.ownBlock=v.ownBlock:=by
 have hle:(p.lo.den ρ 0).toNat+(p.len.den ρ 0).toNat<=(n.den ρ 0).toNat:=by
  have h1:=h.lo;have h2:=h.hi;clear hv h;omega
 obtain⟨h1,h2,h3,a,c,k,rfl,hc,rfl,hk⟩:=h;obtain⟨hlen,hr⟩:=hv;have aiv:=Nat.mul_le_mul_right s hle;rw[Nat.add_mul]at aiv;have key: ∀(A B C:Nat),B+A<=C->min A (C - B)=A:=by intro A B C h;omega
 refine⟨⟨by rw[List.length_take,List.length_drop,hlen];exact key _ _ _ aiv,?_⟩,by cases a<;>simp[Value.ownBlock,Addr.add];try (split<;>rfl)⟩;rcases hr with⟨he,hz⟩ | ⟨g,o,cap,cur,he,hg,Jr,ZX,nY,Ds⟩
 .left;simp only[Value.slice.injEq]at he;obtain⟨rfl,_,rfl⟩:=he;have h0:(p.len.den ρ 0).toNat=0:=by omega
  refine⟨?_,h0⟩;rw[h0];simp only[Option.map_none,Value.slice.injEq,true_and];cases hm:p.mx with
  | none=>simp
  | some m=>
   have:=(h3 (m.den ρ 0) (by rw[hm];rfl)).2;simp only[Option.map_some,ayG];omega
 .right;simp only[Value.slice.injEq]at he;obtain⟨rfl,_,rfl⟩:=he;simp only[Option.map_some,jF];have VM:((p.mx.map λm=>m.den ρ 0).map ag).getD c<=c:=by
   cases hm:p.mx with
   | none=>exact Nat.le_refl _
   | some m=>
    have:=(h3 (m.den ρ 0) (by rw[hm];rfl)).2;simp only[Option.map_some,ayG];omega
  have zK:(p.lo.den ρ 0).toNat+(p.len.den ρ 0).toNat<=((p.mx.map λm=>m.den ρ 0).map ag).getD c:=by
   cases hm:p.mx with
   | none=>simp only[Option.map_none,Option.getD_none];omega
   | some m=>
    have:=(h3 (m.den ρ 0) (by rw[hm];rfl)).1;simp only[Option.map_some,ayG];omega
  obtain⟨C,hC⟩: ∃C,C=((p.mx.map λm=>m.den ρ 0).map ag).getD c:=⟨_,rfl⟩;rw[<-hC]at hk VM zK ⊢;have q1:(p.len.den ρ 0).toNat<=C - (p.lo.den ρ 0).toNat:=Nat.le_sub_of_add_le (by rw[Nat.add_comm];exact zK);have q2:C - (p.lo.den ρ 0).toNat<=maxLen:=Nat.le_trans (Nat.sub_le _ _) (Nat.le_trans VM ZX);refine⟨g,o+k,C - (p.lo.den ρ 0).toNat,cur,rfl,hg,q1,q2,λuC=>?_,?_⟩
  .have eJ:=hk (.inl (by omega));have:=nY (by omega);have e1:(C - (p.lo.den ρ 0).toNat)*s+(p.lo.den ρ 0).toNat*s=C*s:=by rw[<-Nat.add_mul];congr 1;omega
   have e2:C*s<=c*s:=Nat.mul_le_mul_right _ VM;omega
  .by_cases h0:(p.len.den ρ 0).toNat=0
   .rw [h0,Nat.zero_mul,List.take_zero,List.take_zero]
   .have eJ:=hk (.inl (by omega));rw[<-Ds,List.drop_take,List.take_take,List.drop_drop,eJ,Nat.min_eq_left (by omega)]
theorem po{n:E}{bytes:Nat}(h:(yu n bytes).prop ρ)(h0:0<=n.den ρ 0):
  (n.den ρ 0).toNat*bytes<=140737488355328/\(n.den ρ 0).toNat<=140737488355328:=by
 unfold yu at h;have h:=of_decide_eq_true (jN ρ _ _▸(BE.bY ρ _).2 h);rw[iV]at h;simp only[E.den]at h;obtain⟨k,hk⟩:=Int.eq_ofNat_of_zero_le h0;rw[hk]at h ⊢;rw[<-Int.natCast_mul]at h;have h:k*max 1 bytes<=140737488355328:=by omega
 have h2:k*bytes<=k*max 1 bytes:=Nat.mul_le_mul_left _ (Nat.le_max_right _ _);have h3:k*1<=k*max 1 bytes:=Nat.mul_le_mul_left _ (Nat.le_max_left _ _);simp only[ax3];omega
theorem sZ(n L:Nat)(aB:List bU)(h:L<=n):(aL ρ n aB).take (L*cm aB)=aL ρ L aB:=by
 have:=vO (dU ρ aB) n 0 L (by omega);rw[Nat.zero_mul,List.drop_zero]at this;rw[dI,this,dI];exact eM λi _=>by rw[Nat.zero_add]
theorem yx(hT:bD P T=true){ts:TypeId}{tt:TI}(ji:aV T ts=some tt){x y:SV}{res:jf}(h:vf T hp nv tt.k x y=some res)
  (dF:Reads hp ρ w S res.rd) (cA: ∀b∈res.vcs,b.prop ρ) (ty:TypeId):
  Did P ρ w hp S nb nv ((do pure (.value (<-ayA #[ts,ts] ty #[x.val ρ,y.val ρ])):Sem Next).run P w) res:=by
 unfold vf at h;split at h
 .rename_i t hk;split at h
  .rename_i te kZ;obtain⟨rfl,Ct⟩:=aE hT ji;obtain⟨rfl,dZ⟩:=aE hT kZ;have eJ:=Ct.kind;rw[hk]at eJ;have hu:=cd eJ;obtain⟨i,hi,jR,FV,z,hz,hc⟩:=dZ.info;have xD:z.cells.size=te.size:=by rw[<-Array.length_toList,<-hc ρ,bJ,dZ.Nu]
   split at h
   .rename_i sc kS;split at h
    .cases h
    .rename_i uC;have uC:0<te.size:=by omega
     split at h
     .cases h;simp only at cA dF;obtain⟨v1,v3⟩:=bM cA;obtain⟨v1,v2⟩:=bM v1;have v2:=br v2;simp only[E.den]at v2;obtain⟨b1,b2⟩:=po (bytes:=te.bytes) (v3 _ (by simp)) v2;obtain⟨_,s2,s3⟩:=iK kS dF v1 v2;obtain⟨v',w',r1,r2,r3,r5⟩:=uo (P:=P) tt.t ty te.t i z te.size te.bytes hu hi hz jR FV xD uC (.slice none 0 0) 0 [] (qN w te.t te.size)
       _ _ _ s3 (by rw[eL,s2]) (z9 _ _) (by unfold maxLen;omega) (by rw[Nat.zero_add];exact b1)
      refine⟨te.t,te.size,_,sc.aB,v',w',λk=>v'.ownBlock=some k,rfl,rfl,by simp only[SV.val,ax9,r1,ax0,ayj],?_,⟨r3.os,r3.tape,r3.output,r3.size⟩,λk hk=>r3.block k hk (by simp[Value.ownBlock]),⟨?_,λk=>⟨λh=>⟨h,.inl rfl⟩,λh=>h.1⟩⟩,?_⟩
      .rcases r2.2 with⟨rfl,_⟩ | ⟨g,o,cap,cur,rfl,_⟩<;>rfl
      .simp only[if_true];simpa using r2
      .intro k hk;rcases r5 with h | h
       .rw [hk]at h;cases h
       .rw [hk]at h;cases h;exact⟨Nat.le_refl _,pV r2 hk⟩
     .rename_i b ix s n m;split at h
      .rename_i x q hx hq;split at h
       .rename_i hc;obtain⟨hxn,rfl,rfl⟩:=hc;rw[axV]at h;obtain⟨aS,g_,rfl⟩:=h;simp only at cA dF;obtain⟨v1,v4⟩:=bM cA;obtain⟨v1,v3⟩:=bM v1;obtain⟨v1,v2⟩:=bM v1;have v3:=br v3;simp only[E.den]at v3;have hqn:sc.n.den ρ 0=((q+1:Nat):Int):=dg (ρ:=ρ) hq;obtain⟨_,x2,x3⟩:=iK (te:=te) hx (λj hj=>dF j (List.mem_append_left _ hj)) v1 (by rw[hxn];exact v3);obtain⟨_,s2,s3⟩:=iK (te:=te) kS (λj hj=>dF j (List.mem_append_right _ hj)) v2 (by omega);rw[hxn]at x3;have KE:(fl n sc.n).den ρ 0=n.den ρ 0+sc.n.den ρ 0:=bK ..;obtain⟨b1,b2⟩:=po (n:=fl n sc.n) (bytes:=te.bytes) (v4 _ (by simp)) (by rw[KE];omega);have Cu:((fl n sc.n).den ρ 0).toNat=(n.den ρ 0).toNat+(sc.n.den ρ 0).toNat:=by rw[KE];omega
        rw[Cu]at b1 b2;obtain⟨ya,yc,hyv,aiw,hyr⟩:=s3;have hya: ∃a,ya=some a:=by
         cases ya with
         | none=>have:=aiw rfl;omega
         | some a=>exact⟨a,rfl⟩
        obtain⟨ya,rfl⟩:=hya;obtain⟨xa,xc,hxv,_,hxr⟩:=x3;have aix:(SV.sl b ix te.size n n).val ρ= .slice (some ⟨ρ.bv.getD b 0,(ix.den ρ 0).toNat*te.size,none⟩) (n.den ρ 0).toNat (n.den ρ 0).toNat:=rfl;rw[aix]at hxv;simp only[Value.slice.injEq]at hxv;obtain⟨I8,_,_⟩:=hxv;obtain⟨v',w',r1,r2,r3,r5⟩:=zE (P:=P) (w:=w) tt.t ty te.t i z te.size te.bytes hu hi hz jR FV xD ⟨ρ.bv.getD b 0,(ix.den ρ 0).toNat*te.size,none⟩ (n.den ρ 0).toNat _ (by rw[eL,x2])
         (λj u hj=>hxr _ I8.symm j u hj) ya (sc.n.den ρ 0).toNat yc (by omega) _ (by rw[eL,s2]) (λj u hj=>hyr _ rfl j u hj) (by unfold maxLen;omega) b1
        have mX:aL ρ ((fl n sc.n).den ρ 0).toNat aS=aL ρ (n.den ρ 0).toNat x.aB++aL ρ (sc.n.den ρ 0).toNat sc.aB:=by
         rw[Cu];obtain⟨c1,c2,c3⟩:=lH (ρ:=ρ) v3 (by omega) g_;rw[dI,kv];congr 1
         .exact eM λk hk=>by rw[c3,if_neg (by omega)]
         .exact eM λk hk=>by rw[c3,if_pos (by omega)];congr 1;omega
        refine⟨te.t,te.size,_,aS,v',w',λk=>v'.ownBlock=some k,rfl,rfl,by rw[aix,hyv];simp only[ax9,r1,ax0,ayj],?_,⟨r3.os,r3.tape,r3.output,r3.size⟩,λk hk=>r3.block k hk (by simp),⟨?_,λk=>⟨λh=>⟨h,.inl rfl⟩,λh=>h.1⟩⟩,?_⟩
        .rcases r2.2 with⟨rfl,_⟩ | ⟨g,o,cap,cur,rfl,_⟩<;>rfl
        .simp only[if_true];rw[mX,Cu];exact r2
        .intro k hk;rw[hk]at r5;cases r5;exact⟨Nat.le_refl _,pV r2 hk⟩
       .cases h
      .cases h
     .split at h
      .rename_i r hr;split at h
       .rename_i iD;obtain⟨ht,hs,hw,K8⟩:=iD;split at h
        .split at h
         .rename_i v lo cj s aS g_ _ _ _;cases h;simp only at cA dF;obtain⟨v1,v4⟩:=bM cA;obtain⟨v1,v3⟩:=bM v1;obtain⟨v1,v2⟩:=bM v1;have v3:=br v3;have v4:=br v4;simp only[E.den]at v3;rw[bK]at v4;have hrj:Reads hp ρ w S [r.j]:=λj hj=>dF j (by simp at hj;simp[hj])
          obtain⟨hj,_⟩:=gJ hr hrj v1;have hS:=hrj r.j (by simp) _ hj;obtain⟨_,s2,s3⟩:=iK (te:=te) kS (λj hj=>dF j (axZ _ hj)) v2 v3;have hrv:r.v=v/\r.s=s/\r.p=⟨fl (.lit 0) lo,xx cj lo,none⟩/\r.vcs=(oY r.n ⟨.lit 0,r.n,none⟩ ⟨lo,cj,none⟩).2++[]:=by
           unfold iJ at hr;simp only at hr;split at hr
           .split at hr
            .rename_i hss;cases hr;exact⟨rfl,hss,rfl,rfl⟩
            .cases hr
           .cases hr
          obtain⟨rfl,rfl,nR,aoK⟩:=hrv;have v1:=aoK▸v1;rw[List.append_nil]at v1;obtain⟨_,k1,k2,_,a,N,C,hv,hN,hC,_⟩:=(oh.whole (ρ:=ρ) (s:=r.s) (n:=r.n) (qn hS)).step _ v1;have hC:=hC rfl;simp only at k1 k2 hN hC;rw[K8]at hS;have er:(fl r.p.lo r.p.len).den ρ 0=cj.den ρ 0:=by
           rw[nR];simp only[bK,gD,E.den];omega
          obtain⟨c1,c2,c3⟩:=lH (ρ:=ρ) (by rw[er];omega) v3 g_;rw[er]at c3;have adx:=AW (f:=rowAt ρ r.aB) (g:=rowAt ρ sc.aB) (h:=rowAt ρ aS) (s:=r.s) (λi=>by rw[dU];exact hw.symm) (r.n.den ρ 0).toNat (cj.den ρ 0).toNat (sc.n.den ρ 0).toNat
           (by omega) c3
          have yR:(aL ρ (sc.n.den ρ 0).toNat sc.aB).length=(sc.n.den ρ 0).toNat*r.s:=by rw[eL,s2,hs]
          have ady:(cj.den ρ 0).toNat*r.s+(aL ρ (sc.n.den ρ 0).toNat sc.aB).length<=(aL ρ (r.n.den ρ 0).toNat r.aB).length:=by
           rw[yR,eL,<-hw,<-Nat.add_mul];exact Nat.mul_le_mul_right _ (by omega)
          obtain⟨w',g1,g2,g3,g4,g5,g6⟩:=Ee (P:=P) hS ((cj.den ρ 0).toNat*r.s) ady (z9 _ _) ((a.getD ⟨0,0,none⟩).add ((cj.den ρ 0).toNat*r.s)) (λM7=>by
           rw[hv];cases a with
           | none=>
            exfalso;obtain⟨_,_,he,lD,_⟩:=(Ew hS).1;rw[hv]at he;cases he;have:=lD rfl;rw[yR]at M7;have:(sc.n.den ρ 0).toNat=0:=by omega
            rw[this,Nat.zero_mul]at M7;omega
           | some a=>rfl)
          refine⟨w',.inl ?_,⟨⟨_,hj,by rw[K8];rfl⟩,rfl,g2,g3,g4,?_⟩⟩
          .have jT:=Cr (P:=P) (w:=w) (w':=w') tt.t ty te.t i hu hi (if C=(lo.den ρ 0).toNat then a else a.map (·.add ((lo.den ρ 0).toNat*r.s))) ((cj.den ρ 0).toNat - (lo.den ρ 0).toNat) (C - (lo.den ρ 0).toNat)
            (y.val ρ) (sc.n.den ρ 0).toNat (aL ρ (sc.n.den ρ 0).toNat sc.aB) s3 (by rw[yR,jR,hs]) (by
             have:(r.n.den ρ 0).toNat<=C:=by
              obtain⟨_,_,he,hle⟩:=qn hS;rw[hv]at he;cases he;exact hle
             omega) (λad had=>by
             cases a with
             | none=>simp at had
             | some a0=>
              by_cases hz0:(sc.n.den ρ 0).toNat=0
              .have lD:aL ρ (sc.n.den ρ 0).toNat sc.aB=[]:=aye (by rw[yR,hz0,Nat.zero_mul]);rw[lD]at g6 ⊢;rw[g6 rfl];rfl
              .have hle:(r.n.den ρ 0).toNat<=C:=by
                obtain⟨_,_,he,hle⟩:=qn hS;rw[hv]at he;cases he;exact hle
               rw[if_neg (by omega)]at had;simp only[Option.map_some,axU]at had;subst had;rw[dS,jR,<-hs,<-Nat.add_mul,show(lo.den ρ 0).toNat+((cj.den ρ 0).toNat - (lo.den ρ 0).toNat)=(cj.den ρ 0).toNat by omega];exact g1) (λIV=>by
             apply g6;cases a with
             | some a0=>split at IV<;>simp at IV
             | none=>
              obtain⟨_,_,he,lD,_⟩:=(Ew hS).1;rw[hv]at he;cases he;have:=lD rfl;apply aye;rw[yR,show(sc.n.den ρ 0).toNat=0 by omega,Nat.zero_mul])
           have e1:(SV.kj r.v [⟨lo,cj,none⟩] r.s).val ρ= .slice (if C=(lo.den ρ 0).toNat then a else a.map (·.add ((lo.den ρ 0).toNat*r.s))) ((cj.den ρ 0).toNat - (lo.den ρ 0).toNat) (C - (lo.den ρ 0).toNat):=by
            simp only[SV.val,dX,hv];rfl
           have e2:(SV.kj r.v [⟨lo,fl cj sc.n,none⟩] r.s).val ρ= .slice (if C=(lo.den ρ 0).toNat then a else a.map (·.add ((lo.den ρ 0).toNat*r.s))) ((cj.den ρ 0).toNat - (lo.den ρ 0).toNat+(sc.n.den ρ 0).toNat) (C - (lo.den ρ 0).toNat):=by
            simp only[SV.val,dX,hv,bK];show Value.slice _ _ _=_;congr 1;omega
           simp only[ax9,e1,jT,ax0,ayj,e2]
          .simp only[Ck.den];rw[dI,adx];rw[yR]at g5;rw[<-ht];exact g5
         .cases h
        .split at h
         .rename_i rc hrc;split at h
          .rename_i aS g_;cases h;simp only at cA dF;obtain⟨v1,v5⟩:=bM cA;obtain⟨v1,v4⟩:=bM v1;obtain⟨v1,v3⟩:=bM v1;obtain⟨v1,v2⟩:=bM v1;have v3:=br v3;have v4:=br v4;simp only[E.den]at v3 v4;have hrj:Reads hp ρ w S [r.j]:=λj hj=>dF j (by simp at hj;simp[hj])
           obtain⟨hj,fx⟩:=gJ hr hrj v1;have hS:=hrj r.j (by simp) _ hj;rw[K8]at hS;obtain⟨_,s2,s3⟩:=iK (te:=te) kS (λj hj=>dF j (axZ _ hj)) v2 v4;have KE:(fl r.p.len sc.n).den ρ 0=r.p.len.den ρ 0+sc.n.den ρ 0:=bK ..;obtain⟨b1,b2⟩:=po (n:=fl r.p.len sc.n) (bytes:=te.bytes) (v5 _ (by simp)) (by rw[KE];omega);have Cu:((fl r.p.len sc.n).den ρ 0).toNat=(r.p.len.den ρ 0).toNat+(sc.n.den ρ 0).toNat:=by rw[KE];omega
           rw[Cu]at b1 b2;obtain⟨eX,qO⟩:=hS;simp only[if_true]at eX;obtain⟨o1,o2⟩:=zm fx v3 eX;have hhi:=fx.hi;have NN:=fx.lo;obtain⟨e1,e2⟩:=lG (ρ:=ρ) fx.lo hrc;have aiy:((aL ρ (r.n.den ρ 0).toNat r.aB).drop ((r.p.lo.den ρ 0).toNat*r.s)).take ((r.p.len.den ρ 0).toNat*r.s)=aL ρ (r.p.len.den ρ 0).toNat rc:=by
            rw[dI,hw,vO (dU ρ r.aB) _ _ _ (by omega),dI];exact eM λi _=>(e2 i).symm
           rw[aiy]at o1;obtain⟨v',w',r1,r2,r3,r5⟩:=uo (P:=P) tt.t ty te.t i z te.size te.bytes hu hi hz jR FV xD uC (x.val ρ) (r.p.len.den ρ 0).toNat _ (by rw[<-ht,<-hs];exact o1)
            _ _ _ s3 (by rw[eL,s2]) (z9 _ _) (by unfold maxLen;omega) b1
           have mX:aL ρ ((fl r.p.len sc.n).den ρ 0).toNat aS=aL ρ (r.p.len.den ρ 0).toNat rc++aL ρ (sc.n.den ρ 0).toNat sc.aB:=by
            rw[Cu];split at g_
            .rename_i zB;cases g_;rw[zB];simp[E.den,aL,aG]
            .obtain⟨c1,c2,c3⟩:=lH (ρ:=ρ) v3 v4 g_;rw[dI,kv];congr 1
             .exact eM λk hk=>by rw[c3,if_neg (by omega)]
             .exact eM λk hk=>by rw[c3,if_pos (by omega)];congr 1;omega
           refine⟨te.t,r.s,_,aS,v',w',λk=>v'.ownBlock=some k,rfl,rfl,by simp only[ax9,r1,ax0,ayj],?_,⟨_,hj,by rw[K8];rfl⟩,⟨r3.os,r3.tape,r3.output,r3.size⟩,?_,⟨?_,λk=>⟨λh=>⟨h,.inl rfl⟩,λh=>h.1⟩⟩,?_⟩
           .rcases r2.2 with⟨rfl,_⟩ | ⟨g,o,cap,cur,rfl,_⟩<;>rfl
           .intro k hk hn;refine r3.block k hk λhe=>hn ((qO k).2 ⟨?_,.inl rfl⟩)
            rw[<-o2,<-he]
           .simp only[if_true];rw[mX,Cu,hs];exact r2
           .intro k hk;rcases r5 with h | h
            .left;rw[qO k,<-o2,<-h];exact⟨hk,.inl rfl⟩
            .right;rw[hk]at h;cases h;exact⟨Nat.le_refl _,pV r2 hk⟩
          .cases h
         .cases h
       .cases h
      .cases h
   .cases h
  .cases h
 .cases h
end
end Go.RX
