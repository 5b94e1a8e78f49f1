/- A reflective symbolic executor, part 15d: whole rows appended, cleared, copied, made. -/
import Derived.Test.YtfnaoeleljhmhaaGreatRxOc
import Derived.Laws.MakeOwn

namespace Go.RX
section
variable {P:Program} {ρ:Env} {w:World} {look:Nat→Option SV} {vals:Operand→Value} {hp:List Ck} {S:Nat→Nat→Prop} {nb nv:Nat} {T:List TI}
theorem sliHP_put{t s n:Nat}{v:Value}{cs vs:List Value}{S:Nat→Prop}(h:(sliHP true t s v n cs).p w S)(c:Nat)(hl:c+vs.length≤cs.length)
  (h1: ∀u∈vs,u.oneCell'=true) (a:Addr) (ha:0<vs.length→intoSlice v c= .pointer (some a)):
  ∃w',(storeCells a vs).run P w= .ok () w'∧Same w w'∧w'.heap.size=w.heap.size∧
   (∀k,¬S k→w'.heap[k]? =w.heap[k]?)∧(sliHP true t s v n (cs.take c++vs++cs.drop (c+vs.length))).p w' S∧(vs=[]→w'=w):=by
 cases vs with
 | nil=>
  refine⟨w,rfl,Same.refl w,rfl,fun _ _=>rfl,?_,fun _=>rfl⟩;simpa using h
 | cons u r=>
  obtain⟨g,o,w',g1,g2,g3,g4,g5,g6,g7⟩:=sliHP_set (P:=P) h c hl (by simp) h1;have:=ha (by simp);rw [g1]at this;cases this;exact⟨w',g3,g4,g5,fun k hk=>g6 k (fun e=>hk (e▸g2)),g7,by simp⟩
theorem rdRow_first{x:Value}{m s:Nat}{news:List Value}(h:World.rdRow w x m news)(hl:news.length=m*s):
  (Builtin.lenOf x).run P w= .ok m w∧∀k,k≤m→(Builtin.firstCells s k x).run P w= .ok (news.take (k*s)).toArray w:=by
 obtain⟨a,c,rfl,hnil,hr⟩:=h;refine⟨rfl,fun k hk=>?_⟩;cases a with
 | none=>
  have hm:=hnil rfl;subst hm;have:news=[]:=List.eq_nil_of_length_eq_zero (by simpa using hl);subst this;simp [Builtin.firstCells]
 | some a=>
  have hks:k*s≤m*s:=Nat.mul_le_mul_right _ hk;have:=run_loadCells_list (P:=P) w a (news.take (k*s)) (fun j v hv=>by
   rw [List.getElem?_take]at hv;split at hv
   ·exact hr a rfl j v hv
   ·cases hv)
  rw [List.length_take,hl,Nat.min_eq_left hks]at this;simpa [Builtin.firstCells] using this
theorem run_append_rd(t ty e:TypeId)(i:TypeInfo)(z:Value)(size bytes:Nat)(ht:P.underlying t=some (.slice e))(hi:P.info? e=some i)(hz:i.zero=some z)
  (hsize:i.size=size) (hby:i.bytes=bytes) (hzs:z.cells.size=size) (hz1: ∀u∈z.cells.toList,u.oneCell'=true) (hsz:0<size)
  (v:Value) (n:Nat) (xs:List Value) (hown:w.ownsAt e size v n xs) (y:Value) (m:Nat) (news:List Value) (hy:World.rdRow w y m news) (hl:news.length=m*size)
  (h1: ∀u∈news,u.oneCell'=true) (h63:n+m≤maxLen) (hbytes:(n+m)*bytes≤140737488355328):
  ∃v' w',(Builtin.append_ #[t,t] ty #[v,y]).run P w= .ok v' w'∧w'.ownsAt e size v' (n+m) (xs++news)∧w.grownBy w' v.ownBlock∧
   (v'.ownBlock=v.ownBlock∨v'.ownBlock=some w.heap.size):=by
 obtain⟨a,c,rfl,hnil,hr⟩:=hy;cases a with
 | some a=>
  exact run_append_at (P:=P) (w:=w) t ty e i z size bytes ht hi hz hsize hby hzs hz1 hsz v n xs hown a m c news hl (hr a rfl) h1 h63 hbytes
 | none=>
  have hm:=hnil rfl;subst hm;have:news=[]:=List.eq_nil_of_length_eq_zero (by simpa using hl);subst this;refine⟨v,w,?_,by simpa using hown,⟨rfl,rfl,rfl,Nat.le_refl _,fun _ _ _=>rfl⟩,.inl rfl⟩;rcases hown.2 with⟨rfl,rfl⟩ | ⟨g,o,cap,cur,rfl,_,hnc,_⟩
  ·simp [Builtin.append_,run_underlying ht,sizeOf,typeInfo,hi,Builtin.lenOf,Builtin.firstCells]
  ·simp [Builtin.append_,run_underlying ht,sizeOf,typeInfo,hi,Builtin.lenOf,Builtin.firstCells,hnc,storeCells]
theorem run_append_fit(t ty e:TypeId)(i:TypeInfo)(ht:P.underlying t=some (.slice e))(hi:P.info? e=some i)(a:Option Addr)(N C:Nat)(y:Value)(m:Nat)(news:List Value)
  (hy:World.rdRow w y m news) (hl:news.length=m*i.size) (hfit:N+m≤C) {w':World} (hs: ∀ad,a=some ad→(storeCells (ad.add (N*i.size)) news).run P w= .ok () w') (hn:a=none→w'=w):
  (Builtin.append_ #[t,t] ty #[.slice a N C,y]).run P w= .ok (.slice a (N+m) C) w':=by
 obtain⟨q1,q2⟩:=rdRow_first (P:=P) hy hl;have q2:=q2 m (Nat.le_refl _);rw [List.take_of_length_le (by omega)]at q2;cases a with
 | none=>
  have:=hn rfl;subst this;simp [Builtin.append_,run_underlying ht,sizeOf,typeInfo,hi,q1,q2,hfit]
 | some ad=>
  have:=hs ad rfl;simp [Builtin.append_,run_underlying ht,sizeOf,typeInfo,hi,q1,q2,hfit,this]
theorem ownsAt_part{t s:Nat}{v x:Value}{n:E}{p:Part}{cs:List Value}(h:SubAt ρ s v x n p)(hl:0≤p.len.den ρ 0)
  (hv:w.ownsAt t s v (n.den ρ 0).toNat cs):w.ownsAt t s x (p.len.den ρ 0).toNat ((cs.drop ((p.lo.den ρ 0).toNat*s)).take ((p.len.den ρ 0).toNat*s))∧x.ownBlock=v.ownBlock:=by
 have hle:(p.lo.den ρ 0).toNat+(p.len.den ρ 0).toNat≤(n.den ρ 0).toNat:=by
  have h1:=h.lo;have h2:=h.hi;clear hv h;omega
 obtain⟨h1,h2,h3,a,c,k,rfl,hc,rfl,hk⟩:=h;obtain⟨hlen,hr⟩:=hv;have hle':=Nat.mul_le_mul_right s hle;rw [Nat.add_mul]at hle';have key: ∀(A B C:Nat),B+A≤C→min A (C - B)=A:=by intro A B C h;omega
 refine⟨⟨by rw [List.length_take,List.length_drop,hlen];exact key _ _ _ hle',?_⟩,by cases a<;>simp [Value.ownBlock,Addr.add];try (split<;>rfl)⟩;rcases hr with⟨he,hz⟩ | ⟨g,o,cap,cur,he,hg,hnc,hcm,hcs,htk⟩
 ·left;simp only [Value.slice.injEq]at he;obtain⟨rfl,_,rfl⟩:=he;have h0:(p.len.den ρ 0).toNat=0:=by omega
  refine⟨?_,h0⟩;rw [h0];simp only [Option.map_none,Value.slice.injEq,true_and];cases hm:p.mx with
  | none=>simp
  | some m=>
   have:=(h3 (m.den ρ 0) (by rw [hm];rfl)).2;simp only [Option.map_some,Option.getD_some];omega
 ·right;simp only [Value.slice.injEq]at he;obtain⟨rfl,_,rfl⟩:=he;simp only [Option.map_some,addr_add_at];have hmc:((p.mx.map fun m=>m.den ρ 0).map Int.toNat).getD c≤c:=by
   cases hm:p.mx with
   | none=>exact Nat.le_refl _
   | some m=>
    have:=(h3 (m.den ρ 0) (by rw [hm];rfl)).2;simp only [Option.map_some,Option.getD_some];omega
  have hmn:(p.lo.den ρ 0).toNat+(p.len.den ρ 0).toNat≤((p.mx.map fun m=>m.den ρ 0).map Int.toNat).getD c:=by
   cases hm:p.mx with
   | none=>simp only [Option.map_none,Option.getD_none];omega
   | some m=>
    have:=(h3 (m.den ρ 0) (by rw [hm];rfl)).1;simp only [Option.map_some,Option.getD_some];omega
  obtain⟨C,hC⟩: ∃C,C=((p.mx.map fun m=>m.den ρ 0).map Int.toNat).getD c:=⟨_,rfl⟩;rw [←hC]at hk hmc hmn ⊢;have q1:(p.len.den ρ 0).toNat≤C - (p.lo.den ρ 0).toNat:=Nat.le_sub_of_add_le (by rw [Nat.add_comm];exact hmn);have q2:C - (p.lo.den ρ 0).toNat≤maxLen:=Nat.le_trans (Nat.sub_le _ _) (Nat.le_trans hmc hcm);refine⟨g,o+k,C - (p.lo.den ρ 0).toNat,cur,rfl,hg,q1,q2,fun hpos=>?_,?_⟩
  ·have hkk:=hk (.inl (by omega));have:=hcs (by omega);have e1:(C - (p.lo.den ρ 0).toNat)*s+(p.lo.den ρ 0).toNat*s=C*s:=by rw [←Nat.add_mul];congr 1;omega
   have e2:C*s≤c*s:=Nat.mul_le_mul_right _ hmc;omega
  ·by_cases h0:(p.len.den ρ 0).toNat=0
   ·rw [h0,Nat.zero_mul,List.take_zero,List.take_zero]
   ·have hkk:=hk (.inl (by omega));rw [←htk,List.drop_take,List.take_take,List.drop_drop,hkk,Nat.min_eq_left (by omega)]
theorem roomVc_prop{n:E}{bytes:Nat}(h:(roomVc n bytes).prop ρ)(h0:0≤n.den ρ 0):
  (n.den ρ 0).toNat*bytes≤140737488355328∧(n.den ρ 0).toNat≤140737488355328:=by
 unfold roomVc at h;have h:=of_decide_eq_true (bLe_den ρ _ _▸(BE.den_iff ρ _).2 h);rw [eMul_den]at h;simp only [E.den]at h;obtain⟨k,hk⟩:=Int.eq_ofNat_of_zero_le h0;rw [hk]at h ⊢;rw [←Int.natCast_mul]at h;have h:k*max 1 bytes≤140737488355328:=by omega
 have h2:k*bytes≤k*max 1 bytes:=Nat.mul_le_mul_left _ (Nat.le_max_right _ _);have h3:k*1≤k*max 1 bytes:=Nat.mul_le_mul_left _ (Nat.le_max_left _ _);simp only [Int.toNat_natCast];omega
theorem cells_take_tab(n L:Nat)(cols:List Col)(h:L≤n):(tabCells ρ n cols).take (L*colsW cols)=tabCells ρ L cols:=by
 have:=tabF_cut (row_length ρ cols) n 0 L (by omega);rw [Nat.zero_mul,List.drop_zero]at this;rw [tabCells_eq,this,tabCells_eq];exact tabF_congr fun i _=>by rw [Nat.zero_add]
theorem appendSym2_sound(hT:checkT P T=true){ts:TypeId}{tt:TI}(htt:tlook T ts=some tt){x y:SV}{res:Res}(h:appendSym2 T hp nv tt.k x y=some res)
  (hrd:Reads hp ρ w S res.rd) (hvc: ∀b∈res.vcs,b.prop ρ) (ty:TypeId):
  Did P ρ w hp S nb nv ((do pure (.value (←Builtin.append_ #[ts,ts] ty #[x.val ρ,y.val ρ])):Sem Next).run P w) res:=by
 unfold appendSym2 at h;split at h
 ·rename_i t hk;split at h
  ·rename_i te hte;obtain⟨rfl,htt'⟩:=tlook_spec hT htt;obtain⟨rfl,hti⟩:=tlook_spec hT hte;have hkk:=htt'.kind;rw [hk]at hkk;have hu:=kind_slice hkk;obtain⟨i,hi,hsz,hby,z,hz,hc⟩:=hti.info;have hzs:z.cells.size=te.size:=by rw [←Array.length_toList,←hc ρ,cellsL_length,hti.zlen]
   split at h
   ·rename_i sc hsc;split at h
    ·cases h
    ·rename_i hpos;have hpos:0<te.size:=by omega
     split at h
     ·cases h;simp only at hvc hrd;obtain⟨v1,v3⟩:=mem_app hvc;obtain⟨v1,v2⟩:=mem_app v1;have v2:=bLe'_prop v2;simp only [E.den]at v2;obtain⟨b1,b2⟩:=roomVc_prop (bytes:=te.bytes) (v3 _ (by simp)) v2;obtain⟨_,s2,s3⟩:=srcOf_spec hsc hrd v1 v2;obtain⟨v',w',r1,r2,r3,r5⟩:=run_append_rd (P:=P) tt.t ty te.t i z te.size te.bytes hu hi hz hsz hby hzs (zone hti.one hc) hpos (.slice none 0 0) 0 [] (ownsAt_nil w te.t te.size)
       _ _ _ s3 (by rw [tab_length,s2]) (tab_one _ _) (by unfold maxLen;omega) (by rw [Nat.zero_add];exact b1)
      refine⟨te.t,te.size,_,sc.cols,v',w',fun k=>v'.ownBlock=some k,rfl,rfl,by simp only [SV.val,Sem.run_bind,r1,Result.andThen_ok,Sem.run_pure],?_,⟨r3.os,r3.tape,r3.output,r3.size⟩,fun k hk=>r3.block k hk (by simp [Value.ownBlock]),⟨?_,fun k=>⟨fun h=>⟨h,.inl rfl⟩,fun h=>h.1⟩⟩,?_⟩
      ·rcases r2.2 with⟨rfl,_⟩ | ⟨g,o,cap,cur,rfl,_⟩<;>rfl
      ·simp only [if_true];simpa using r2
      ·intro k hk;rcases r5 with h | h
       ·rw [hk]at h;cases h
       ·rw [hk]at h;cases h;exact⟨Nat.le_refl _,ownsAt_lt r2 hk⟩
     ·rename_i b ix s n m;split at h
      ·rename_i x q hx hq;split at h
       ·rename_i hc;obtain⟨hxn,rfl,rfl⟩:=hc;rw [Option.map_eq_some_iff]at h;obtain⟨cols',hcols,rfl⟩:=h;simp only at hvc hrd;obtain⟨v1,v4⟩:=mem_app hvc;obtain⟨v1,v3⟩:=mem_app v1;obtain⟨v1,v2⟩:=mem_app v1;have v3:=bLe'_prop v3;simp only [E.den]at v3;have hqn:sc.n.den ρ 0=((q+1:Nat):Int):=litNat_den (ρ:=ρ) hq;obtain⟨_,x2,x3⟩:=srcOf_spec (te:=te) hx (fun j hj=>hrd j (List.mem_append_left _ hj)) v1 (by rw [hxn];exact v3);obtain⟨_,s2,s3⟩:=srcOf_spec (te:=te) hsc (fun j hj=>hrd j (List.mem_append_right _ hj)) v2 (by omega);rw [hxn]at x3;have hsum:(eAdd n sc.n).den ρ 0=n.den ρ 0+sc.n.den ρ 0:=eAdd_den ..;obtain⟨b1,b2⟩:=roomVc_prop (n:=eAdd n sc.n) (bytes:=te.bytes) (v4 _ (by simp)) (by rw [hsum];omega);have hsumn:((eAdd n sc.n).den ρ 0).toNat=(n.den ρ 0).toNat+(sc.n.den ρ 0).toNat:=by rw [hsum];omega
        rw [hsumn]at b1 b2;obtain⟨ya,yc,hyv,hynil,hyr⟩:=s3;have hya: ∃a,ya=some a:=by
         cases ya with
         | none=>have:=hynil rfl;omega
         | some a=>exact⟨a,rfl⟩
        obtain⟨ya,rfl⟩:=hya;obtain⟨xa,xc,hxv,_,hxr⟩:=x3;have hxv':(SV.sl b ix te.size n n).val ρ= .slice (some ⟨ρ.bv.getD b 0,(ix.den ρ 0).toNat*te.size,none⟩) (n.den ρ 0).toNat (n.den ρ 0).toNat:=rfl;rw [hxv']at hxv;simp only [Value.slice.injEq]at hxv;obtain⟨hxa,_,_⟩:=hxv;obtain⟨v',w',r1,r2,r3,r5⟩:=run_append_full (P:=P) (w:=w) tt.t ty te.t i z te.size te.bytes hu hi hz hsz hby hzs (zone hti.one hc) ⟨ρ.bv.getD b 0,(ix.den ρ 0).toNat*te.size,none⟩ (n.den ρ 0).toNat _ (by rw [tab_length,x2]) (tab_one _ _)
         (fun j u hj=>hxr _ hxa.symm j u hj) ya (sc.n.den ρ 0).toNat yc (by omega) _ (by rw [tab_length,s2]) (tab_one _ _) (fun j u hj=>hyr _ rfl j u hj) (by unfold maxLen;omega) b1
        have hcells:tabCells ρ ((eAdd n sc.n).den ρ 0).toNat cols'=tabCells ρ (n.den ρ 0).toNat x.cols++tabCells ρ (sc.n.den ρ 0).toNat sc.cols:=by
         rw [hsumn];obtain⟨c1,c2,c3⟩:=splCols_spec (ρ:=ρ) v3 (by omega) hcols;rw [tabCells_eq,tabF_add];congr 1
         ·exact tabF_congr fun k hk=>by rw [c3,if_neg (by omega)]
         ·exact tabF_congr fun k hk=>by rw [c3,if_pos (by omega)];congr 1;omega
        refine⟨te.t,te.size,_,cols',v',w',fun k=>v'.ownBlock=some k,rfl,rfl,by rw [hxv',hyv];simp only [Sem.run_bind,r1,Result.andThen_ok,Sem.run_pure],?_,⟨r3.os,r3.tape,r3.output,r3.size⟩,fun k hk=>r3.block k hk (by simp),⟨?_,fun k=>⟨fun h=>⟨h,.inl rfl⟩,fun h=>h.1⟩⟩,?_⟩
        ·rcases r2.2 with⟨rfl,_⟩ | ⟨g,o,cap,cur,rfl,_⟩<;>rfl
        ·simp only [if_true];rw [hcells,hsumn];exact r2
        ·intro k hk;rw [hk]at r5;cases r5;exact⟨Nat.le_refl _,ownsAt_lt r2 hk⟩
       ·cases h
      ·cases h
     ·split at h
      ·rename_i r hr;split at h
       ·rename_i hcond;obtain⟨ht,hs,hw,hmd⟩:=hcond;split at h
        ·split at h
         ·rename_i v lo hi' s cols' hcols _ _ _;cases h;simp only at hvc hrd;obtain⟨v1,v4⟩:=mem_app hvc;obtain⟨v1,v3⟩:=mem_app v1;obtain⟨v1,v2⟩:=mem_app v1;have v3:=bLe'_prop v3;have v4:=bLe'_prop v4;simp only [E.den]at v3;rw [eAdd_den]at v4;have hrj:Reads hp ρ w S [r.j]:=fun j hj=>hrd j (by simp at hj;simp [hj])
          obtain⟨hj,_⟩:=rootSV_spec hr hrj v1;have hS:=hrj r.j (by simp) _ hj;obtain⟨_,s2,s3⟩:=srcOf_spec (te:=te) hsc (fun j hj=>hrd j (List.mem_cons_of_mem _ hj)) v2 v3;have hrv:r.v=v∧r.s=s∧r.p=⟨eAdd (.lit 0) lo,eSub hi' lo,none⟩∧r.vcs=(cutStep r.n ⟨.lit 0,r.n,none⟩ ⟨lo,hi',none⟩).2++[]:=by
           unfold rootSV at hr;simp only at hr;split at hr
           ·split at hr
            ·rename_i hss;cases hr;exact⟨rfl,hss,rfl,rfl⟩
            ·cases hr
           ·cases hr
          obtain⟨rfl,rfl,hp',hvcs⟩:=hrv;have v1:=hvcs▸v1;rw [List.append_nil]at v1;obtain⟨_,k1,k2,_,a,N,C,hv,hN,hC,_⟩:=(SubAt.whole (ρ:=ρ) (s:=r.s) (n:=r.n) (sli_whole hS)).step _ v1;have hC:=hC rfl;simp only at k1 k2 hN hC;rw [hmd]at hS;have hat:(eAdd r.p.lo r.p.len).den ρ 0=hi'.den ρ 0:=by
           rw [hp'];simp only [eAdd_den,eSub_den,E.den];omega
          obtain⟨c1,c2,c3⟩:=splCols_spec (ρ:=ρ) (by rw [hat];omega) v3 hcols;rw [hat]at c3;have htab:=tabF_spl (f:=rowAt ρ r.cols) (g:=rowAt ρ sc.cols) (h:=rowAt ρ cols') (s:=r.s) (fun i=>by rw [row_length];exact hw.symm) (r.n.den ρ 0).toNat (hi'.den ρ 0).toNat (sc.n.den ρ 0).toNat
           (by omega) c3
          have hnl:(tabCells ρ (sc.n.den ρ 0).toNat sc.cols).length=(sc.n.den ρ 0).toNat*r.s:=by rw [tab_length,s2,hs]
          have hbnd:(hi'.den ρ 0).toNat*r.s+(tabCells ρ (sc.n.den ρ 0).toNat sc.cols).length≤(tabCells ρ (r.n.den ρ 0).toNat r.cols).length:=by
           rw [hnl,tab_length,←hw,←Nat.add_mul];exact Nat.mul_le_mul_right _ (by omega)
          obtain⟨w',g1,g2,g3,g4,g5,g6⟩:=sliHP_put (P:=P) hS ((hi'.den ρ 0).toNat*r.s) hbnd (tab_one _ _) ((a.getD ⟨0,0,none⟩).add ((hi'.den ρ 0).toNat*r.s)) (fun hpos'=>by
           rw [hv];cases a with
           | none=>
            exfalso;obtain⟨_,_,he,hnil,_⟩:=(sli_rd hS).1;rw [hv]at he;cases he;have:=hnil rfl;rw [hnl]at hpos';have:(sc.n.den ρ 0).toNat=0:=by omega
            rw [this,Nat.zero_mul]at hpos';omega
           | some a=>rfl)
          refine⟨w',.inl ?_,⟨⟨_,hj,by rw [hmd];rfl⟩,rfl,g2,g3,g4,?_⟩⟩
          ·have hrun:=run_append_fit (P:=P) (w:=w) (w':=w') tt.t ty te.t i hu hi (if C=(lo.den ρ 0).toNat then a else a.map (·.add ((lo.den ρ 0).toNat*r.s))) ((hi'.den ρ 0).toNat - (lo.den ρ 0).toNat) (C - (lo.den ρ 0).toNat)
            (y.val ρ) (sc.n.den ρ 0).toNat (tabCells ρ (sc.n.den ρ 0).toNat sc.cols) s3 (by rw [hnl,hsz,hs]) (by
             have:(r.n.den ρ 0).toNat≤C:=by
              obtain⟨_,_,he,hle⟩:=sli_whole hS;rw [hv]at he;cases he;exact hle
             omega) (fun ad had=>by
             cases a with
             | none=>simp at had
             | some a0=>
              by_cases hz0:(sc.n.den ρ 0).toNat=0
              ·have hnil:tabCells ρ (sc.n.den ρ 0).toNat sc.cols=[]:=List.eq_nil_of_length_eq_zero (by rw [hnl,hz0,Nat.zero_mul]);rw [hnil]at g6 ⊢;rw [g6 rfl];rfl
              ·have hle:(r.n.den ρ 0).toNat≤C:=by
                obtain⟨_,_,he,hle⟩:=sli_whole hS;rw [hv]at he;cases he;exact hle
               rw [if_neg (by omega)]at had;simp only [Option.map_some,Option.some.injEq]at had;subst had;rw [addr_add_add,hsz,←hs,←Nat.add_mul,show(lo.den ρ 0).toNat+((hi'.den ρ 0).toNat - (lo.den ρ 0).toNat)=(hi'.den ρ 0).toNat by omega];exact g1) (fun hnone=>by
             apply g6;cases a with
             | some a0=>split at hnone<;>simp at hnone
             | none=>
              obtain⟨_,_,he,hnil,_⟩:=(sli_rd hS).1;rw [hv]at he;cases he;have:=hnil rfl;apply List.eq_nil_of_length_eq_zero;rw [hnl,show(sc.n.den ρ 0).toNat=0 by omega,Nat.zero_mul])
           have e1:(SV.vsub r.v [⟨lo,hi',none⟩] r.s).val ρ= .slice (if C=(lo.den ρ 0).toNat then a else a.map (·.add ((lo.den ρ 0).toNat*r.s))) ((hi'.den ρ 0).toNat - (lo.den ρ 0).toNat) (C - (lo.den ρ 0).toNat):=by
            simp only [SV.val,subSlices,hv];rfl
           have e2:(SV.vsub r.v [⟨lo,eAdd hi' sc.n,none⟩] r.s).val ρ= .slice (if C=(lo.den ρ 0).toNat then a else a.map (·.add ((lo.den ρ 0).toNat*r.s))) ((hi'.den ρ 0).toNat - (lo.den ρ 0).toNat+(sc.n.den ρ 0).toNat) (C - (lo.den ρ 0).toNat):=by
            simp only [SV.val,subSlices,hv,eAdd_den];show Value.slice _ _ _=_;congr 1;omega
           simp only [Sem.run_bind,e1,hrun,Result.andThen_ok,Sem.run_pure,e2]
          ·simp only [Ck.den];rw [tabCells_eq,htab];rw [hnl]at g5;rw [←ht];exact g5
         ·cases h
        ·split at h
         ·rename_i rc hrc;split at h
          ·rename_i cols' hcols;cases h;simp only at hvc hrd;obtain⟨v1,v5⟩:=mem_app hvc;obtain⟨v1,v4⟩:=mem_app v1;obtain⟨v1,v3⟩:=mem_app v1;obtain⟨v1,v2⟩:=mem_app v1;have v3:=bLe'_prop v3;have v4:=bLe'_prop v4;simp only [E.den]at v3 v4;have hrj:Reads hp ρ w S [r.j]:=fun j hj=>hrd j (by simp at hj;simp [hj])
           obtain⟨hj,hsub⟩:=rootSV_spec hr hrj v1;have hS:=hrj r.j (by simp) _ hj;rw [hmd]at hS;obtain⟨_,s2,s3⟩:=srcOf_spec (te:=te) hsc (fun j hj=>hrd j (List.mem_cons_of_mem _ hj)) v2 v4;have hsum:(eAdd r.p.len sc.n).den ρ 0=r.p.len.den ρ 0+sc.n.den ρ 0:=eAdd_den ..;obtain⟨b1,b2⟩:=roomVc_prop (n:=eAdd r.p.len sc.n) (bytes:=te.bytes) (v5 _ (by simp)) (by rw [hsum];omega);have hsumn:((eAdd r.p.len sc.n).den ρ 0).toNat=(r.p.len.den ρ 0).toNat+(sc.n.den ρ 0).toNat:=by rw [hsum];omega
           rw [hsumn]at b1 b2;obtain⟨hown,hblk⟩:=hS;simp only [if_true]at hown;obtain⟨o1,o2⟩:=ownsAt_part hsub v3 hown;have hhi:=hsub.hi;have hlo:=hsub.lo;obtain⟨e1,e2⟩:=shiftCols_spec (ρ:=ρ) hsub.lo hrc;have hpart:((tabCells ρ (r.n.den ρ 0).toNat r.cols).drop ((r.p.lo.den ρ 0).toNat*r.s)).take ((r.p.len.den ρ 0).toNat*r.s)=tabCells ρ (r.p.len.den ρ 0).toNat rc:=by
            rw [tabCells_eq,hw,tabF_cut (row_length ρ r.cols) _ _ _ (by omega),tabCells_eq];exact tabF_congr fun i _=>(e2 i).symm
           rw [hpart]at o1;obtain⟨v',w',r1,r2,r3,r5⟩:=run_append_rd (P:=P) tt.t ty te.t i z te.size te.bytes hu hi hz hsz hby hzs (zone hti.one hc) hpos (x.val ρ) (r.p.len.den ρ 0).toNat _ (by rw [←ht,←hs];exact o1)
            _ _ _ s3 (by rw [tab_length,s2]) (tab_one _ _) (by unfold maxLen;omega) b1
           have hcells:tabCells ρ ((eAdd r.p.len sc.n).den ρ 0).toNat cols'=tabCells ρ (r.p.len.den ρ 0).toNat rc++tabCells ρ (sc.n.den ρ 0).toNat sc.cols:=by
            rw [hsumn];split at hcols
            ·rename_i hl0;cases hcols;rw [hl0];simp [E.den,tabCells,tabL]
            ·obtain⟨c1,c2,c3⟩:=splCols_spec (ρ:=ρ) v3 v4 hcols;rw [tabCells_eq,tabF_add];congr 1
             ·exact tabF_congr fun k hk=>by rw [c3,if_neg (by omega)]
             ·exact tabF_congr fun k hk=>by rw [c3,if_pos (by omega)];congr 1;omega
           refine⟨te.t,r.s,_,cols',v',w',fun k=>v'.ownBlock=some k,rfl,rfl,by simp only [Sem.run_bind,r1,Result.andThen_ok,Sem.run_pure],?_,⟨_,hj,by rw [hmd];rfl⟩,⟨r3.os,r3.tape,r3.output,r3.size⟩,?_,⟨?_,fun k=>⟨fun h=>⟨h,.inl rfl⟩,fun h=>h.1⟩⟩,?_⟩
           ·rcases r2.2 with⟨rfl,_⟩ | ⟨g,o,cap,cur,rfl,_⟩<;>rfl
           ·intro k hk hn;refine r3.block k hk fun he=>hn ((hblk k).2 ⟨?_,.inl rfl⟩)
            rw [←o2,←he]
           ·simp only [if_true];rw [hcells,hsumn,hs];exact r2
           ·intro k hk;rcases r5 with h | h
            ·left;rw [hblk k,←o2,←h];exact⟨hk,.inl rfl⟩
            ·right;rw [hk]at h;cases h;exact⟨Nat.le_refl _,ownsAt_lt r2 hk⟩
          ·cases h
         ·cases h
       ·cases h
      ·cases h
   ·cases h
  ·cases h
 ·cases h
end
end Go.RX
