/- Executor. -/
import Derived.Test.YtmgbbbmdbpbeeaaGreatM06
open Array renaming getElem?_eq_some_iff → aiY, length_toList → ajv
open Bool renaming and_eq_true → ai
open Go.Builtin renaming zeroCells → ajg
open Go.Result renaming andThen_ok → aiU
open Go.Sem renaming run_bind → ai2, run_pure → ajd
open Int renaming toNat → ag, toNat_natCast → aiX
open List renaming eq_nil_of_length_eq_zero → ai6, getElem?_eq_some_iff → aiN, map_cons → ajb, mem_append → ajt, mem_cons → ai0, mem_cons_of_mem → aiV, mem_map → ai_, mem_of_getElem? → ajn, mem_singleton → ajo
open List.cons renaming injEq → ai5
open Option renaming getD_some → ajh, map_eq_some_iff → aiO, map_some → ajI
open Option.some renaming injEq → aiP
namespace Go.RX
section
variable {P:Program} {ρ:Env} {w:World} {look:Nat→Option SV} {bH:Operand→Value} {hp:List Ck} {S:Nat→Nat→Prop} {nb nv:Nat} {T:List TI}
theorem fG: ∀{l:List SV} {aD:List bR},jt l aD=true→∀i:Nat,rowAt ρ aD i=SV.aA ρ l
 | [],[],_,_=>rfl
 | [],_::_,h,_=>by simp [jt]at h
 | v::r,[],h,_=>by cases v<;>simp [jt]at h
 | v::r,c::aD,h,i=>by
  unfold jt at h;split at h
  ·rename_i h1 _;cases h1
  ·rename_i k r' k' w aT h1 h2;cases h1;cases h2;simp only [ai,beq_iff_eq]at h;obtain⟨⟨rfl,rfl⟩,h⟩:=h;have:=fG h i;simp only [rowAt,ajb,List.flatMap_cons,SV.aA,SV.cells]at this ⊢;rw [this];simp [bR.cells,bd,aj,E.den]
  ·rename_i r' w aT h1 h2;cases h1;cases h2;simp only [ai,beq_iff_eq]at h;obtain⟨rfl,h⟩:=h;have:=fG h i;simp only [rowAt,ajb,List.flatMap_cons,SV.aA,SV.cells]at this ⊢;rw [this];simp [bR.cells,z_,E.den,BE.den]
  ·rename_i k n r' k' w aT h1 h2;cases h1;cases h2;simp only [ai,beq_iff_eq]at h;obtain⟨⟨rfl,rfl⟩,h⟩:=h;have:=fG h i;simp only [rowAt,ajb,List.flatMap_cons,SV.aA,SV.cells]at this ⊢;rw [this];simp only [bR.cells,bd];congr 1
  ·rename_i r' w aT h1 h2;cases h1;cases h2;simp only [ai,beq_iff_eq]at h;obtain⟨rfl,h⟩:=h;have:=fG h i;simp only [rowAt,ajb,List.flatMap_cons,SV.aA,SV.cells]at this ⊢;rw [this];simp [bR.cells,xV,E.den,nu]
  ·rename_i r' w a' aT h1 h2;cases h1;cases h2;simp only [ai,beq_iff_eq]at h;obtain⟨rfl,h⟩:=h;have:=fG h i;simp only [rowAt,ajb,List.flatMap_cons,SV.aA,SV.cells]at this ⊢;rw [this];simp [bR.cells,cJ]
  ·rename_i r' w aT h1 h2;cases h1;cases h2;simp only [ai,beq_iff_eq]at h;obtain⟨rfl,h⟩:=h;have:=fG h i;simp only [rowAt,ajb,List.flatMap_cons,SV.aA,SV.cells]at this ⊢;rw [this];simp [bR.cells,cJ,E.den,o4,cd]
  ·cases h
theorem eU{te:TI}{z:List bR}(h:gI T te=some z):(∀i:Nat,rowAt ρ z i=SV.aA ρ te.zero)∧bT z=te.size∧0<te.size:=by
 unfold gI at h;split at h
 ·split at h
  ·rename_i hc;cases h;simp only [ai,beq_iff_eq,Bool.not_eq_true',beq_eq_false_iff_ne]at hc;exact⟨fun i=>fG hc.1.1 i,hc.1.2,by omega⟩
  ·cases h
 ·cases h
theorem s5{te:TI}{z:List bR}(h:gI T te=some z)(n:Nat):aK ρ n z=(List.replicate n (SV.aA ρ te.zero)).flatten:=by
 rw [cj,cA fun i _=>(eU h).1 i];unfold fP
 induction n with
 | zero=>rfl
 | succ n ih=>rw [List.range_succ,List.flatMap_append,ih,List.replicate_succ',List.flatten_append];simp
theorem Af(hT:bD P T=true){ts:TypeId}{tt:TI}(fc:aU T ts=some tt){n c:E}{res:hU}(h:Ce T nv tt.k n c=some res)(bW: ∀b∈res.vcs,b.prop ρ)
  (k k':IntKind):
  sx P ρ w hp S nb nv ((do pure (.value (←Instr.makeSlice ts (.int k (n.den ρ 0)) (.int k' (c.den ρ 0)))):Sem Next).run P w) res:=by
 unfold Ce at h;split at h
 ·rename_i t hk;split at h
  ·rename_i te gP;obtain⟨rfl,ov⟩:=aE hT fc;obtain⟨rfl,cK⟩:=aE hT gP;have cO:=ov.kind;rw [hk]at cO;have hu:=bM cO;obtain⟨i,hi,eS,ue,z,hz,hc⟩:=cK.info;have pe:z.cells.size=te.size:=by rw [←ajv,←hc ρ,bw,cK.z9]
   split at h
   ·rename_i zc Ac;cases h;simp only at bW;obtain⟨v1,v3⟩:=bE bW;obtain⟨v1,v2⟩:=bE v1;have v1:=a_ v1;have v2:=a_ v2;simp only [E.den]at v1;obtain⟨b1,b2⟩:=gH (n:=c) (bytes:=te.bytes) (v3 _ (by simp)) (by omega);obtain⟨z1,z2,z3⟩:=eU (ρ:=ρ) Ac;have Xw:(i.bytes:Int)*c.den ρ 0≤281474976710656:=by
     have:((i.bytes*(c.den ρ 0).toNat:Nat):Int)≤281474976710656:=by rw [ue,Nat.mul_comm];omega
     rw [Int.natCast_mul,Int.toNat_of_nonneg (by omega)]at this;exact this
    have hr:=run_make (P:=P) w tt.t te.t i z hu hi hz k k' (n.den ρ 0) (c.den ρ 0) v1 v2 Xw (by omega);have fe:(madeCells z.cells ((c.den ρ 0).toNat*i.size)).toList=aK ρ (c.den ρ 0).toNat zc:=by
     rw [s5 Ac,hc ρ,eS,←pe];unfold madeCells;exact sS _ _ (by omega)
    refine⟨te.t,te.size,n,zc,.slice (some ⟨w.heap.size,0,none⟩) (n.den ρ 0).toNat (c.den ρ 0).toNat,w.alloc (.cells (madeCells z.cells ((c.den ρ 0).toNat*i.size)) te.t),fun k=>k=w.heap.size,rfl,rfl,by simp only [ai2,hr,aiU,ajd],rfl,⟨rfl,rfl,rfl,by simp⟩,fun k hk=>heap_alloc_old w _ hk,⟨?_,?_⟩,?_⟩
    ·simp only [if_true];refine⟨by rw [c_,z2],.inr ⟨w.heap.size,0,_,_,rfl,⟨_,_,heap_alloc_new w _,.zero _⟩,by omega,by unfold maxLen;omega,fun _=>?_,?_⟩⟩
     ·rw [size_madeCells,eS,Nat.zero_add];exact Nat.le_refl _
     ·rw [fe,←z2,List.drop_zero,pN _ _ _ (by omega)]
    ·intro k;simp only [Value.ownBlock,aiP];exact⟨fun h=>⟨h.symm,.inl trivial⟩,fun h=>h.1.symm⟩
    ·rintro k rfl;simp
   ·cases h
  ·cases h
 ·cases h
theorem yw(hT:bD P T=true){ti te:TI}{t:TypeId}(ht:aU T t=some ti){e:Nat}(hk:ti.k= .slice e)(gP:aU T e=some te){zc:List bR}(_:gI T te=some zc):
  sx P ρ w hp S nb nv ((do pure (.value (←Instr.buildSlice t 0 #[])):Sem Next).run P w) {val:= .vv nv,hZ:= .own (.bK true nv e te.size (.lit 0) zc)}:=by
 obtain⟨rfl,cK⟩:=aE hT ht;obtain⟨rfl,KA⟩:=aE hT gP;have cO:=cK.kind;rw [hk]at cO;have hu:=bM cO;have hr:(Instr.buildSlice ti.t 0 #[]).run P w= .ok (.slice (some ⟨w.heap.size,0,none⟩) 0 0) (w.alloc (.cells #[] te.t)):=by
  simp [Instr.buildSlice,run_underlying hu,KA.sizeOf w,Instr.fill,newRow,Array.range_zero']
 refine⟨te.t,te.size,.lit 0,zc,.slice (some ⟨w.heap.size,0,none⟩) 0 0,w.alloc (.cells #[] te.t),fun k=>k=w.heap.size,rfl,rfl,by simp only [ai2,hr,aiU,ajd],rfl,⟨rfl,rfl,rfl,by simp⟩,fun k hk=>heap_alloc_old w _ hk,⟨?_,?_⟩,?_⟩
 ·simp only [if_true];refine⟨by simp [E.den,aK,aW],.inr ⟨w.heap.size,0,0,#[],rfl,⟨_,_,heap_alloc_new w _,.zero _⟩,Nat.le_refl _,Nat.zero_le _,by simp,by simp [E.den,aK,aW]⟩⟩
 ·intro k;simp only [Value.ownBlock,aiP];exact⟨fun h=>⟨h.symm,.inl trivial⟩,fun h=>h.1.symm⟩
 ·rintro k rfl;simp
theorem IZ{x:SV}{r:Rt}(hr:fB hp x=some r)(cP:Reads hp ρ w S [r.j])(hv: ∀b∈r.vcs,b.prop ρ)(G7:r.md=true)(hw:r.s=bT r.aD)(hl:0≤r.p.len.den ρ 0)
  {m:E} (hm:0≤m.den ρ 0) (hle:m.den ρ 0≤r.p.len.den ρ 0) {sc aT:List bR} (hs:bT sc=r.s) (ep:gl r.p.lo m r.aD sc=some aT):
  ∃a c,x.val ρ= .slice a (r.p.len.den ρ 0).toNat c∧∃w',(∀ad,a=some ad→(storeCells ad (aK ρ (m.den ρ 0).toNat sc)).run P w= .ok () w')∧((m.den ρ 0).toNat=0→w'=w)∧(a=none→w'=w)∧
   IV P w ρ hp S r.j (.bK true r.v r.t r.s r.n aT) w':=by
 obtain⟨hj,dB⟩:=eK hr cP hv;have hS:=cP r.j (by simp) _ hj;have hS:(aG true r.t r.s (ρ.vv.getD r.v V1.nil).v (r.n.den ρ 0).toNat (aK ρ (r.n.den ρ 0).toNat r.aD)).p w (S r.j):=by
  rw [G7]at hS;exact hS
 obtain⟨h1,h2,h3,a,c,k,Z4,hc,hx,hk⟩:=dB;obtain⟨c1,c2,c3⟩:=fE (ρ:=ρ) h1 hm ep;have M_:=yu (f:=rowAt ρ r.aD) (g:=rowAt ρ sc) (h:=rowAt ρ aT) (s:=r.s) (fun i=>by rw [c9];exact hw.symm) (r.n.den ρ 0).toNat (r.p.lo.den ρ 0).toNat (m.den ρ 0).toNat (by omega) c3;have ng:(aK ρ (m.den ρ 0).toNat sc).length=(m.den ρ 0).toNat*r.s:=by rw [c_,hs]
 have UB:(r.p.lo.den ρ 0).toNat*r.s+(aK ρ (m.den ρ 0).toNat sc).length≤(aK ρ (r.n.den ρ 0).toNat r.aD).length:=by
  rw [ng,c_,←hw,←Nat.add_mul];exact Nat.mul_le_mul_right _ (by omega)
 have D7:a=none→(m.den ρ 0).toNat=0:=by
  rintro rfl;obtain⟨_,_,he,kN,_⟩:=(Cd hS).1;rw [Z4]at he;cases he;have:=kN rfl;omega
 obtain⟨w',g1,g2,g3,g4,g5,g6⟩:=AW (P:=P) hS ((r.p.lo.den ρ 0).toNat*r.s) UB (ot _ _) ((a.getD ⟨0,0,none⟩).add ((r.p.lo.den ρ 0).toNat*r.s)) (fun IY=>by
  rw [Z4];cases a with
  | none=>
   have:=D7 rfl;rw [ng,this,Nat.zero_mul]at IY;omega
  | some a=>rfl)
 have hz:(m.den ρ 0).toNat=0→aK ρ (m.den ρ 0).toNat sc=[]:=fun h=>ai6 (by rw [ng,h,Nat.zero_mul])
 refine⟨_,_,hx,w',?_,fun h=>g6 (hz h),fun h=>?_,⟨⟨_,hj,by rw [G7];rfl⟩,rfl,g2,g3,g4,?_⟩⟩
 ·intro ad pr;by_cases h0:(m.den ρ 0).toNat=0
  ·rw [hz h0]at g6 ⊢;rw [g6 rfl];rfl
  ·cases a with
   | none=>simp at pr
   | some a0=>
    simp only [ajI,aiP]at pr;subst pr;have KF:(r.p.lo.den ρ 0).toNat<((r.p.mx.map fun m=>m.den ρ 0).map ag).getD c:=by
     cases Tm:(r.p.mx.map fun m=>m.den ρ 0)with
     | none=>simp only [Option.map_none,Option.getD_none];omega
     | some q=>have:=h3 q Tm;simp only [ajI,ajh];omega
    rw [hk (.inl KF)];exact g1
 ·cases a with
  | some a=>simp at h
  | none=>exact g6 (hz (D7 rfl))
 ·simp only [Ck.den];rw [cj,M_];rw [ng]at g5;exact g5
theorem KG{te:TI}{z:Value}{zc:List bR}(Ac:gI T te=some zc)(hc:SV.aA ρ te.zero=z.cells.toList)(pe:z.cells.size=te.size)(n:Nat):
  (ajg z.cells n).toList=aK ρ n zc:=by
 obtain⟨z1,z2,z3⟩:=eU (ρ:=ρ) Ac;rw [s5 Ac,hc];unfold ajg;exact sS _ _ (by omega)
theorem yx(hT:bD P T=true){ts:TypeId}{tt:TI}(fc:aU T ts=some tt){x:SV}{res:hU}(h:yy T hp tt.k x=some res)
  (cP:Reads hp ρ w S res.rd) (bW: ∀b∈res.vcs,b.prop ρ) (ty:TypeId):
  sx P ρ w hp S nb nv ((do pure (.value (←Builtin.clear_ #[ts] ty #[x.val ρ])):Sem Next).run P w) res:=by
 unfold yy at h;split at h
 ·rename_i e hk;cases h;obtain⟨rfl,ov⟩:=aE hT fc;have cO:=ov.kind;rw [hk]at cO;have hu:=bM cO;show(Sem.run P _ w)= .ok (Next.value (SV.undef.val ρ)) w;simp [Builtin.clear_,run_underlying hu,SV.val,undef]
 ·rename_i e hk _;split at h
  ·rename_i te r gP hr;obtain⟨rfl,ov⟩:=aE hT fc;obtain⟨rfl,cK⟩:=aE hT gP;have cO:=ov.kind;rw [hk]at cO;have hu:=bM cO;obtain⟨i,hi,eS,ue,z,hz,hc⟩:=cK.info;have pe:z.cells.size=te.size:=by rw [←ajv,←hc ρ,bw,cK.z9]
   split at h
   ·rename_i zc Ac;split at h
    ·rename_i ia;obtain⟨hs,hw,G7⟩:=ia;rw [aiO]at h;obtain⟨aT,ep,rfl⟩:=h;simp only at bW cP;obtain⟨v1,v2⟩:=bE bW;have v2:=a_ v2;simp only [E.den]at v2;obtain⟨_,z2,z3⟩:=eU (ρ:=ρ) Ac;obtain⟨a,c,hx,w',s1,s2,s3,s4⟩:=IZ (P:=P) hr cP v1 G7 hw v2 v2 (Int.le_refl _) (z2.trans hs.symm) ep;refine⟨w',.inl ?_,s4⟩;rw [hx];cases a with
     | none=>
      rw [s3 rfl];simp [Builtin.clear_,run_underlying hu,SV.val,undef]
     | some ad=>
      by_cases h0:(r.p.len.den ρ 0).toNat=0
      ·rw [s2 h0,h0];simp [Builtin.clear_,run_underlying hu,SV.val,undef]
      ·obtain⟨N,hN⟩: ∃N,(r.p.len.den ρ 0).toNat=N+1:=⟨(r.p.len.den ρ 0).toNat - 1,by omega⟩;have zU:=s1 ad rfl;rw [←KG Ac (hc ρ) pe,hN]at zU;rw [hN];obtain⟨z',GV,_⟩:=cK.zero w;have hzz:(zeroValue te.t).run P w= .ok z w:=by simp [zeroValue,typeInfo,hi,hz]
       simp [Builtin.clear_,run_underlying hu,hzz,zU,SV.val,undef]
    ·cases h
   ·cases h
  ·cases h
 ·cases h
theorem pO(a b:E):(wP a b).den ρ 0=min (a.den ρ 0) (b.den ρ 0):=by
 unfold wP;split
 ·rfl
 ·split
  ·rename_i h;subst h;simp
  ·simp only [E.den,ak];omega
theorem ow(ts ty e:TypeId)(i:TypeInfo)(ht:P.underlying ts=some (.slice e))(hi:P.info? e=some i)(a:Option Addr)(N C:Nat)(y:Value)(m:Nat)(news:List Value)
  (hy:World.vG w y m news) (hl:news.length=m*i.size) {w':World} (hs: ∀ad,a=some ad→(storeCells ad (news.take (Nat.min m N*i.size))).run P w= .ok () w') (hn:a=none→w'=w):
  (Builtin.copy_ #[ts,ts] ty #[.slice a N C,y]).run P w= .ok (goInt (Nat.min m N)) w':=by
 obtain⟨q1,q2⟩:=vH (P:=P) hy hl;have q2:=q2 (Nat.min m N) (Nat.min_le_left _ _);cases a with
 | none=>
  have:=hn rfl;subst this;simp [Builtin.copy_,run_underlying ht,sizeOf,typeInfo,hi,q1,q2]
 | some ad=>
  have:=hs ad rfl;simp [Builtin.copy_,run_underlying ht,sizeOf,typeInfo,hi,q1,q2,this]
theorem QH(k:IntKind)(N i m:Nat)(f g h:Nat→Int)(hle:i+m≤N)(hh: ∀j,h j=if i≤j∧j<i+m then g (j - i)else f j):
  aj k N h=(aj k N f).take i++aj k m g++(aj k N f).drop (i+m):=by
 have e: ∀(n:Nat) (q:Nat→Int),aj k n q=fP (fun j=>[.int k (q j)]) n:=by
  intro n q;unfold aj fP
  induction n with
  | zero=>rfl
  | succ n ih=>rw [List.range_succ,List.flatMap_append,List.map_append,ih];simp
 have:=yu (f:=fun j=>[.int k (f j)]) (g:=fun j=>[.int k (g j)]) (h:=fun j=>[.int k (h j)]) (s:=1) (fun _=>rfl) N i m hle (fun j=>by rw [hh];split<;>rfl);rw [Nat.mul_one,Nat.mul_one]at this;rw [e,e,e];exact this
theorem Ag(hT:bD P T=true){ts:TypeId}{tt:TI}(fc:aU T ts=some tt){x y:SV}{res:hU}(h:Cf T hp tt.k x y=some res)
  (cP:Reads hp ρ w S res.rd) (bW: ∀b∈res.vcs,b.prop ρ) (ty:TypeId):
  sx P ρ w hp S nb nv ((do pure (.value (←Builtin.copy_ #[ts,ts] ty #[x.val ρ,y.val ρ])):Sem Next).run P w) res:=by
 unfold Cf at h;split at h
 ·rename_i t hk;split at h
  ·rename_i te gP;obtain⟨rfl,ov⟩:=aE hT fc;obtain⟨rfl,cK⟩:=aE hT gP;have cO:=ov.kind;rw [hk]at cO;have hu:=bM cO;obtain⟨i,hi,eS,ue,z,hz,hc⟩:=cK.info;split at h
   ·rename_i sc iT;split at h
    ·rename_i b ix s n cap;split at h
     ·rename_i j b' cs hf;obtain⟨hj,dA⟩:=cM hf;simp only [Ck.ra,beq_iff_eq]at dA;subst dA;split at h
      ·cases h
      ·rename_i ym;have hs:s=te.size:=by
        apply Classical.byContradiction;intro dI;exact ym (.inl dI)
       split at h
       ·rename_i k N a;split at h
        ·rename_i k' a' ep;split at h
         ·rename_i ia;obtain⟨kx,rfl⟩:=ia;cases h;simp only at bW cP;obtain⟨v1,v5⟩:=bE bW;obtain⟨v1,v4⟩:=bE v1;obtain⟨v1,v3⟩:=bE v1;obtain⟨v1,v2⟩:=bE v1;have v2:=a_ v2;have v3:=a_ v3;have v4:=a_ v4;have v5:=a_ v5;rw [bI]at v5;simp only [E.den]at v2 v3 v4 v5;obtain⟨_,s2,s3⟩:=fF (te:=te) iT (fun j hj=>cP j (aiV _ hj)) v1 v2;have hS:=cP j (by simp) _ hj;have hS:(al (ρ.bv.getD b 0) true (aj k N (a.den ρ))).p w (S j):=by
           simpa [Ck.den,SV.aA,SV.cells] using hS
          rw [ep]at s3;have D6:((wP sc.n n).den ρ 0).toNat=Nat.min (sc.n.den ρ 0).toNat (n.den ρ 0).toNat:=by
           rw [pO];simp only [Nat.min_def,Int.min_def];split<;>split<;>omega
          have Na:Nat.min (sc.n.den ρ 0).toNat (n.den ρ 0).toNat≤(sc.n.den ρ 0).toNat:=Nat.min_le_left _ _;have Xx:Nat.min (sc.n.den ρ 0).toNat (n.den ρ 0).toNat≤(n.den ρ 0).toNat:=Nat.min_le_right _ _;have Dh:(aK ρ (sc.n.den ρ 0).toNat [⟨.int k,1,a'⟩]).take (Nat.min (sc.n.den ρ 0).toNat (n.den ρ 0).toNat*i.size)=aj k (Nat.min (sc.n.den ρ 0).toNat (n.den ρ 0).toNat) (a'.den ρ):=by
           rw [dG,eS,←hs,kx,Nat.mul_one];exact dv k _ _ _ Na
          obtain⟨g1,g2⟩:=qC (P:=P) hS (ix.den ρ 0).toNat (vs:=aj k (Nat.min (sc.n.den ρ 0).toNat (n.den ρ 0).toNat) (a'.den ρ)) (by rw [aF,aF];omega)
           (fun u hu=>by simp only [aj,ai_]at hu;obtain⟨_,_,rfl⟩:=hu;rfl)
          have ij:=ow (P:=P) tt.t ty te.t i hu hi (some ⟨ρ.bv.getD b 0,(ix.den ρ 0).toNat*s,none⟩) (n.den ρ 0).toNat (cap.den ρ 0).toNat _ _ _ s3 (by rw [dG,aF,eS,←hs,kx,Nat.mul_one])
           (fun ad pr=>by
            cases pr;rw [Dh,kx,Nat.mul_one];exact g1) (by simp)
          refine⟨w.setCells (ρ.bv.getD b 0) (ix.den ρ 0).toNat (aj k (Nat.min (sc.n.den ρ 0).toNat (n.den ρ 0).toNat) (a'.den ρ)),.inl ?_,⟨⟨_,hj,rfl⟩,rfl,iy _ _ _ _,iu _ _ _ _,fun k hk=>gE _ _ _ _ _ (fun e=>hk ((hS.1 k).2 e)),?_⟩⟩
          ·have e1:(SV.sl b ix s n cap).val ρ= .slice (some ⟨ρ.bv.getD b 0,(ix.den ρ 0).toNat*s,none⟩) (n.den ρ 0).toNat (cap.den ρ 0).toNat:=rfl;rw [e1];simp only [ai2,ij,aiU,ajd,SV.val,goInt];congr 3;have:0≤(wP sc.n n).den ρ 0:=by rw [pO];omega
           omega
          ·rw [aF]at g2;have:=QH k N (ix.den ρ 0).toNat (Nat.min (sc.n.den ρ 0).toNat (n.den ρ 0).toNat) (a.den ρ) (a'.den ρ) ((E.rl a ix (wP sc.n n) a').den ρ) (by omega) (fun j=>by simp only [E.den,D6]);simp only [Ck.den,SV.aA,SV.cells,List.append_nil];rw [this];exact g2
         ·cases h
        ·cases h
       ·split at h
        ·rename_i i0 n0 m0 k' a' P5 AX KD ep;split at h
         ·rename_i kx;rw [aiO]at h;obtain⟨xJ,pG,rfl⟩:=h;simp only at bW cP;have di:=cn (ρ:=ρ) P5;have dn:=cn (ρ:=ρ) AX;have dm:=cn (ρ:=ρ) KD;obtain⟨_,s2,s3⟩:=fF (te:=te) iT (fun j hj=>cP j (aiV _ hj)) bW (by omega);have hS:=cP j (by simp) _ hj;rw [ep,dm,aiX]at s3;obtain⟨p1,p2⟩:=ob ρ pG;have dz:SV.aA ρ [SV.b_ k' (min m0 n0) a']=aj k' (min m0 n0) (a'.den ρ):=by simp [SV.aA,SV.cells]
          rw [dz]at p1 p2;obtain⟨g1,g2⟩:=qC (P:=P) hS i0 p2 (fun u hu=>by simp only [aj,ai_]at hu;obtain⟨_,_,rfl⟩:=hu;rfl);have Dh:(aK ρ m0 [⟨.int k',1,a'⟩]).take (Nat.min m0 n0*i.size)=aj k' (min m0 n0) (a'.den ρ):=by
           rw [dG,eS,←hs,kx,Nat.mul_one];exact dv k' _ _ _ (Nat.min_le_left _ _)
          have ij:=ow (P:=P) tt.t ty te.t i hu hi (some ⟨ρ.bv.getD b 0,i0,none⟩) n0 (cap.den ρ 0).toNat _ _ _ s3 (by rw [dG,aF,eS,←hs,kx,Nat.mul_one])
           (fun ad pr=>by
            cases pr;rw [Dh];exact g1) (by simp)
          refine⟨w.setCells (ρ.bv.getD b 0) i0 (aj k' (min m0 n0) (a'.den ρ)),.inl ?_,⟨⟨_,hj,rfl⟩,rfl,iy _ _ _ _,iu _ _ _ _,fun k hk=>gE _ _ _ _ _ (fun e=>hk ((hS.1 k).2 e)),?_⟩⟩
          ·have e1:(SV.sl b ix s n cap).val ρ= .slice (some ⟨ρ.bv.getD b 0,i0,none⟩) n0 (cap.den ρ 0).toNat:=by simp [SV.val,di,dn,kx]
           rw [e1];simp only [ai2,ij,aiU,ajd,SV.val,goInt,E.den]
          ·simp only [Ck.den,p1];exact g2
         ·cases h
        ·cases h
     ·cases h
    ·split at h
     ·rename_i r hr;split at h
      ·rename_i ia;obtain⟨ht,hs,hw,G7,od⟩:=ia;rw [aiO]at h;obtain⟨aT,ep,rfl⟩:=h;simp only at bW cP;obtain⟨v1,v4⟩:=bE bW;obtain⟨v1,v3⟩:=bE v1;obtain⟨v1,v2⟩:=bE v1;have v3:=a_ v3;have v4:=a_ v4;simp only [E.den]at v3 v4;have UA:Reads hp ρ w S [r.j]:=fun j hj=>cP j (by simp at hj;simp [hj])
       obtain⟨_,s2,s3⟩:=fF (te:=te) iT (fun j hj=>cP j (aiV _ hj)) v2 v4;have KD:0≤(wP sc.n r.p.len).den ρ 0:=by rw [pO];omega
       have hml:(wP sc.n r.p.len).den ρ 0≤r.p.len.den ρ 0:=by rw [pO];omega
       have D6:((wP sc.n r.p.len).den ρ 0).toNat=Nat.min (sc.n.den ρ 0).toNat (r.p.len.den ρ 0).toNat:=by
        rw [pO];simp only [Nat.min_def,Int.min_def];split<;>split<;>omega
       obtain⟨a,c,hx,w',q1,q2,q3,q4⟩:=IZ (P:=P) hr UA v1 G7 hw v3 KD hml (s2.trans hs.symm) ep;refine⟨w',.inl ?_,by rw [←ht];exact q4⟩;have ij:=ow (P:=P) tt.t ty te.t i hu hi a (r.p.len.den ρ 0).toNat c _ _ _ s3 (by rw [c_,s2,eS]) (fun ad pr=>by
        have:=q1 ad pr;have hct:=pN (ρ:=ρ) (sc.n.den ρ 0).toNat (Nat.min (sc.n.den ρ 0).toNat (r.p.len.den ρ 0).toNat) sc.aD (Nat.min_le_left _ _);rw [s2]at hct;rw [eS,hct,←D6];exact this) q3
       rw [hx];simp only [ai2,ij,aiU,ajd,SV.val,goInt];congr 3;omega
      ·cases h
     ·cases h
   ·cases h
  ·cases h
 ·cases h
end
theorem QI{a b:Int}(h:Kc a=Kc b):a=b:=by
 cases a<;>cases b<;>simp only [Kc]at h
 ·congr 1;omega
 ·omega
 ·omega
 ·congr 1;omega
theorem QJ{a b L M:Nat}(h:(2*a+1)*2^L=(2*b+1)*2^M):a=b∧L=M:=by
 induction L generalizing M with
 | zero=>
  cases M with
  | zero=>simp only [Nat.pow_zero,Nat.mul_one]at h;exact⟨by omega,rfl⟩
  | succ M=>
   rw [Nat.pow_succ,Nat.pow_zero,Nat.mul_one,←Nat.mul_assoc]at h;omega
 | succ L ih=>
  cases M with
  | zero=>
   rw [Nat.pow_succ,Nat.pow_zero,Nat.mul_one,←Nat.mul_assoc]at h;omega
  | succ M=>
   rw [Nat.pow_succ,Nat.pow_succ,←Nat.mul_assoc,←Nat.mul_assoc]at h;have:=ih (Nat.eq_of_mul_eq_mul_right (by omega) h);exact⟨this.1,by omega⟩
theorem G8{a b:Nat}{x y:Int}(h:uo a x=uo b y):a=b∧x=y:=by
 unfold uo at h;obtain⟨h1,h2⟩:=QJ h;rw [h2]at h1;have hx:Kc x<2^((Kc y).log2+1):=by rw [←h2];exact Nat.lt_log2_self
 have hy:Kc y<2^((Kc y).log2+1):=Nat.lt_log2_self;generalize 2^((Kc y).log2+1)=N at h1 hx hy;have e1:a=b:=by
  have p:(a*N+Kc x)/N=a:=by rw [Nat.mul_comm,Nat.mul_add_div (by omega),Nat.div_eq_of_lt hx,Nat.add_zero]
  have q:(b*N+Kc y)/N=b:=by rw [Nat.mul_comm,Nat.mul_add_div (by omega),Nat.div_eq_of_lt hy,Nat.add_zero]
  rw [←p,←q,h1]
 subst e1;exact⟨rfl,QI (by omega)⟩
theorem D8: ∀(l m:List Int) (a b:Nat),l.length=m.length→l.foldl uo a=m.foldl uo b→a=b∧l=m
 | [],[],a,b,_,h=>⟨h,rfl⟩
 | [],_::_,_,_,hl,_=>by simp at hl
 | _::_,[],_,_,hl,_=>by simp at hl
 | x::l,y::m,a,b,hl,h=>by
  simp only [List.foldl_cons]at h;obtain⟨h1,h2⟩:=D8 l m _ _ (by simpa using hl) h;obtain⟨h3,h4⟩:=G8 h1;exact⟨h3,by rw [h4,h2]⟩
theorem qH{l m:List Int}(hl:l.length=m.length)(h:bG l=bG m):l=m:=(D8 l m 0 0 hl h).2
theorem I0: ∀{kl:List IntKind} {a b:List Int},a.length=kl.length→b.length=kl.length→xe kl a=xe kl b→a=b
 | [],a,b,ha,hb,_=>by
  rw [ai6 ha,ai6 hb]
 | k::kl,[],_,ha,_,_=>by simp at ha
 | k::kl,_::_,[],_,hb,_=>by simp at hb
 | k::kl,x::a,y::b,ha,hb,h=>by
  simp only [xe,List.zip_cons_cons,ajb,ai5,Value.int.injEq,true_and]at h;rw [h.1,I0 (by simpa using ha) (by simpa using hb) h.2]
theorem qI: ∀{kl:List IntKind} {a:List Int},a.length=kl.length→fp (xe kl a) (kl.map some)
 | [],a,ha=>by rw [ai6 ha];trivial
 | k::kl,[],ha=>by simp at ha
 | k::kl,x::a,ha=>by
  simp only [xe,List.zip_cons_cons,ajb,fp,true_and];exact qI (by simpa using ha)
theorem I1: ∀{kl:List IntKind} {a b:List Int},a.length=kl.length→b.length=kl.length→rU (xe kl a) (xe kl b)=decide (a=b)
 | [],a,b,ha,hb=>by
  rw [ai6 ha,ai6 hb];rfl
 | k::kl,[],_,ha,_=>by simp at ha
 | k::kl,_::_,[],_,hb=>by simp at hb
 | k::kl,x::a,y::b,ha,hb=>by
  have ih:=I1 (kl:=kl) (a:=a) (b:=b) (by simpa using ha) (by simpa using hb);unfold xe at ih;simp only [xe,List.zip_cons_cons,ajb,rU,ih];by_cases h1:x=y<;>by_cases h2:a=b<;>simp [h1,h2]
theorem QL: ∀{kl:List IntKind} {a:List Int},∀u∈xe kl a,∃k n,u= .int k n:=by
 intro kl a u hu;simp only [xe,ai_]at hu;obtain⟨x,_,rfl⟩:=hu;exact⟨_,_,rfl⟩
theorem s6(kl:List IntKind)(ks:List Int):ew true kl ks= .agg (xe kl ks).toArray:=rfl
theorem D9{ka:Bool}{kl:List IntKind}(hk:ka=false→∃k,kl=[k]){a b:List Int}(ha:a.length=kl.length)(hb:b.length=kl.length)(h:ew ka kl a=ew ka kl b):a=b:=by
 cases ka with
 | true=>
  rw [s6,s6]at h;have:=congrArg (fun v=>match v with | .agg c=>c.toList | _=>[]) h;exact I0 ha hb (by simpa using this)
 | false=>
  obtain⟨k,rfl⟩:=hk rfl
  match a,b,ha,hb with
  | [x],[y],_,_=>simpa [ew] using h
section
variable {P:Program} {w:World}
theorem ff(em:Bool)(k:Nat): ∀(d:Nat) (t:TypeId) (L:List gj),eX P d t=some L→∀(xs:List Value) (x:Value),fp xs L→Di P t xs x→(Instr.checkKey em (k+d) t x).run P w= .ok () w
 | 0,t,L,h=>by simp [eX]at h
 | d+1,t,L,h=>by
  intro xs x hx vx;rw [show k+(d+1)=(k+d)+1 from rfl,Instr.checkKey];unfold eX at h;cases hu:P.underlying t with
  | none=>simp [hu]at h
  | some td=>
   rw [hu]at h;simp only [Di,hu]at vx;simp only [ai2,run_underlying hu,aiU];cases td with
   | int q=>
    simp only [aiP]at h;subst h vx;cases x<;>simp only [fp]at hx
    rfl
   | bool=>
    simp only [aiP]at h;subst h vx;cases x<;>simp only [fp]at hx
    rfl
   | array n e=>
    simp only at h vx;subst vx;split at h
    ·rename_i l hl;split at h
     ·rename_i hs;simp only [aiP]at h;subst h;have nf:P.cellsOf e=l.length:=by simpa using hs
      have DU: ∃i,P.info? e=some i:=by
       cases d with
       | zero=>simp [eX]at hl
       | succ d=>
        cases hi:P.info? e with
        | none=>simp [eX,Program.underlying,hi]at hl
        | some i=>exact⟨i,rfl⟩
      obtain⟨i,hi⟩:=DU;have eS:i.size=l.length:=by simpa [Program.cellsOf,hi] using nf
      dsimp only;simp only [Std.Legacy.Range.forIn_eq_forIn_range',Std.Legacy.Range.size,Nat.sub_zero,Nat.add_one_sub_one,Nat.div_one];have key: ∀(m j:Nat),fp (xs.drop (j*l.length)) (List.replicate m l).flatten→
        (forIn (List.range' j m) PUnit.unit fun i _=>(do
         let s←sizeOf e
         let a←part e xs.toArray (i*s)
         Instr.checkKey em (k+d) e a
         pure (ForInStep.yield PUnit.unit):Sem (ForInStep PUnit))).run P w= .ok () w:=by
       intro m
       induction m with
       | zero=>intro j _;simp
       | succ m ih=>
        intro j hf;rw [List.replicate_succ,List.flatten_cons]at hf;obtain⟨h1,h2⟩:=eG hf;rw [List.drop_drop]at h2;obtain⟨a,pa,va⟩:=g9 w hl nf xs (j*l.length) h1;have hc:=ff em k d e l hl _ _ h1 va;have WG:=ih (j+1) (by rw [Nat.add_mul,Nat.one_mul];exact h2);rw [List.range'_succ];simp only [List.forIn_cons,ai2,run_sizeOf w hi,aiU,nf,pa,hc,ajd];exact WG
      have:=key n 0 (by simpa using hx);simpa [ai2] using this
     ·cases h
    ·cases h
   | struct fs=>
    simp only at h vx;subst vx;split at h
    ·cases h
    ·dsimp only;rw [←Array.forIn_toList];have key: ∀(L:List Field) (off:Nat) (l:List gj),jV P (eX P d) L off=some l→fp (xs.drop off) l→
       (forIn L PUnit.unit fun f _=>(do
        if f.name≠ "_" then
         Instr.checkKey em (k+d) f.type (←part f.type xs.toArray f.offset)
         pure (ForInStep.yield PUnit.unit)
        else pure (ForInStep.yield PUnit.unit):Sem (ForInStep PUnit))).run P w= .ok () w:=by
      intro L
      induction L with
      | nil=>intro off l _ _;simp
      | cons f L ih=>
       intro off l hl hf;unfold jV at hl;split at hl
       ·cases hl
       ·rename_i hn;simp only [Bool.or_eq_true,beq_iff_eq,bne_iff_ne,ne_eq,not_or,Decidable.not_not]at hn;obtain⟨hn,rfl⟩:=hn;split at hl
        ·rename_i l1 Uw;split at hl
         ·rename_i hs;rw [aiO]at hl;obtain⟨L',Uv,rfl⟩:=hl;have nf:P.cellsOf f.type=l1.length:=by simpa using hs
          obtain⟨h1,h2⟩:=eG hf;rw [List.drop_drop]at h2;obtain⟨a,pa,va⟩:=g9 w Uw nf xs f.offset h1;have hc:=ff em k d _ _ Uw _ _ h1 va;have WG:=ih _ _ Uv h2;simp only [List.forIn_cons,ai2,hn,ne_eq,not_false_eq_true,if_true,aiU,pa,hc,ajd];exact WG
         ·cases hl
        ·cases hl
     have:=key fs.toList 0 L h (by simpa using hx);simpa [ai2] using this
   | _=>simp at h
theorem vJ(k:IntKind)(n:Int): ∀(es:List MapEntry) (i:Nat),(∀e∈es,∃m,e.key= .int k m)→
  (Instr.findNow (.int k) (.int k n) es i=some none∧∀e∈es,e.key≠ .int k n)∨
  ∃j e,Instr.findNow (.int k) (.int k n) es i=some (some (i+j,e.val))∧es[j]? =some e∧e.key= .int k n
 | [],i,_=> .inl ⟨rfl,by simp⟩
 | e::es,i,h=>by
  obtain⟨m,hm⟩:=h e (by simp);by_cases To:n=m
  ·subst To;exact .inr ⟨0,e,by simp [Instr.findNow,hm,Instr.sameNow],rfl,hm⟩
  ·have hs:Instr.sameNow (.int k) (.int k n) e.key=some false:=by rw [hm];simp [Instr.sameNow,To]
   rcases vJ k n es (i+1) (fun x hx=>h x (by simp [hx]))with⟨h1,h2⟩ | ⟨j,e',h1,h2,h3⟩
   ·refine .inl ⟨by simp only [Instr.findNow,hs,h1],fun x hx=>?_⟩;rcases ai0.1 hx with rfl | hx
    ·rw [hm];simp;exact fun h=>To h.symm
    ·exact h2 x hx
   ·exact .inr ⟨j+1,e',by simp only [Instr.findNow,hs,h1];simp [Nat.add_assoc,Nat.add_comm 1 j],by simpa using h2,h3⟩
theorem vK{kt:TypeId}{kl:List IntKind}(hl:eX P 12 kt=some (kl.map some))(ha: ∀cs:List Value,Di P kt cs (.agg cs.toArray)){ks:List Int}(hk:ks.length=kl.length):
  ∀(es:List MapEntry) (i:Nat),(∀e∈es,∃m:List Int,m.length=kl.length∧e.key=ew true kl m)→
   ((Instr.findAsking kt (ew true kl ks) es i).run P w= .ok none w∧∀e∈es,e.key≠ew true kl ks)∨
   ∃j e,(Instr.findAsking kt (ew true kl ks) es i).run P w= .ok (some (i+j,e.val)) w∧es[j]? =some e∧e.key=ew true kl ks
 | [],i,_=> .inl ⟨by simp [Instr.findAsking],by simp⟩
 | e::es,i,h=>by
  obtain⟨m,hm,Xy⟩:=h e (by simp);have heq:(Op.equal kt (ew true kl ks) e.key).run P w= .ok (decide (ks=m)) w:=by
   have:=mD (P:=P) 9988 12 kt _ hl w _ _ (ew true kl ks) e.key (qI hk) (qI hm) (ha _) (by rw [Xy];exact ha _);rw [I1 hk hm]at this;exact this
  by_cases WH:ks=m
  ·subst WH;exact .inr ⟨0,e,by simp [Instr.findAsking,heq],rfl,Xy⟩
  ·rcases vK hl ha hk es (i+1) (fun x hx=>h x (by simp [hx]))with⟨h1,h2⟩ | ⟨j,e',h1,h2,h3⟩
   ·refine .inl ⟨by simp [Instr.findAsking,heq,WH,h1],fun x hx=>?_⟩;rcases ai0.1 hx with rfl | hx
    ·rw [Xy];intro he;exact WH (D9 (by simp) hm hk he).symm
    ·exact h2 x hx
   ·exact .inr ⟨j+1,e',by simp [Instr.findAsking,heq,WH,h1,Nat.add_assoc,Nat.add_comm 1 j],by simpa using h2,h3⟩
structure Cg (P:Program) (kt:TypeId) (kl:List IntKind) (ka:Bool):Prop where
 lay:eX P 12 kt=some (kl.map some)
 one:ka=false→∃k,kl=[k]∧P.underlying kt=some (.int k)
 agg:ka=true→(∀cs:List Value,Di P kt cs (.agg cs.toArray))∧(match P.underlying kt with | some (.array _ _) | some (.struct _)=>true | _=>false)=true
theorem Cg.val{kt:TypeId}{kl:List IntKind}{ka:Bool}(h:Cg P kt kl ka){ks:List Int}(hk:ks.length=kl.length):Di P kt (xe kl ks) (ew ka kl ks):=by
 cases ka with
 | true=>exact(h.agg rfl).1 _
 | false=>
  obtain⟨k,rfl,hu⟩:=h.one rfl
  match ks,hk with
  | [x],_=>simp [Di,hu,xe,ew]
theorem Cg.inj{kt:TypeId}{kl:List IntKind}{ka:Bool}(h:Cg P kt kl ka){a b:List Int}(ha:a.length=kl.length)(hb:b.length=kl.length)(he:ew ka kl a=ew ka kl b):a=b:=
 D9 (fun hk=>by obtain⟨k,h1,_⟩:=h.one hk;exact⟨k,h1⟩) ha hb he
theorem kS{kt:TypeId}{kl:List IntKind}{ka:Bool}(h:Cg P kt kl ka){ks:List Int}(hk:ks.length=kl.length)(es:List MapEntry)
  (B9: ∀e∈es,∃m:List Int,m.length=kl.length∧e.key=ew ka kl m):
  ((Instr.findKey kt (ew ka kl ks) es).run P w= .ok none w∧∀e∈es,e.key≠ew ka kl ks)∨
  ∃j e,(Instr.findKey kt (ew ka kl ks) es).run P w= .ok (some (j,e.val)) w∧es[j]? =some e∧e.key=ew ka kl ks:=by
 cases ka with
 | true=>
  obtain⟨h1,h2⟩:=h.agg rfl;rw [run_findKey_eq w h2];rcases vK (P:=P) (w:=w) h.lay h1 hk es 0 B9 with h | ⟨j,e,h3,h4,h5⟩
  ·exact .inl h
  ·exact .inr ⟨j,e,by simpa using h3,h4,h5⟩
 | false=>
  obtain⟨k,rfl,hu⟩:=h.one rfl
  match ks,hk with
  | [n],_=>
   have abb: ∀e∈es,∃m,e.key= .int k m:=by
    intro e he;obtain⟨m,hm,Xy⟩:=B9 e he
    match m,hm with
    | [x],_=>exact⟨x,Xy⟩
   rcases vJ k n es 0 abb with⟨h1,h2⟩ | ⟨j,e,h1,h2,h3⟩
   ·exact .inl ⟨by simp [Instr.findKey,run_underlying hu,ew,h1],h2⟩
   ·exact .inr ⟨j,e,by simp [Instr.findKey,run_underlying hu,ew,h1],h2,h3⟩
theorem G9{r:Nat}{es:Array MapEntry}{clock:Nat}(hb:w.heap[r]? =some (.map es clock)):(getObj r).run P w= .ok (.map es clock) w:=by simp [getObj,Sem.run,hb]
theorem Nb{r:Nat}{es:Array MapEntry}{clock:Nat}(o:Obj)(hb:w.heap[r]? =some (.map es clock)):(setObj r o).run P w= .ok () {w with heap:=w.heap.setIfInBounds r o}:=by
 simp [setObj,Sem.run,hb]
theorem pP{t kt vt:TypeId}(hm:P.underlying t=some (.map kt vt)){kl:List IntKind}{ka va comma:Bool}(h:Cg P kt kl ka){ks:List Int}(hk:ks.length=kl.length)
  {b:Nat} {zero:List Value} {has:Nat→Bool} {row:Nat→List Value} {S:Nat→Prop} (hp:(vn b kl ka va zero has row).p w S) {z:Value} (hz:(zeroValue vt).run P w= .ok z w) (UC:xI va zero=z):
  (Instr.lookup t (.map (some b)) (ew ka kl ks) comma).run P w= .ok (if comma then .tuple #[xI va (row (bG ks)),.bool (has (bG ks))]else xI va (row (bG ks))) w:=by
 obtain⟨_,⟨es,clock,hb,B9⟩,hzero⟩:=hp;have Mp:=ff (P:=P) (w:=w) es.isEmpty 9988 12 kt _ h.lay _ _ (qI hk) (h.val hk);simp only [Instr.lookup,ai2,run_underlying hm,aiU,G9 hb,Mp,ajd];rcases kS (P:=P) (w:=w) h hk es.toList (fun e he=>by obtain⟨m,h1,h2,_⟩:=B9.keys e he;exact⟨m,h1,h2⟩)with⟨h1,h2⟩ | ⟨j,e,h1,h2,h3⟩
 ·have Dj:has (bG ks)=false:=by
   cases hh:has (bG ks)with
   | false=>rfl
   | true=>
    obtain⟨e,he,yz⟩:=B9.all ks hk hh;exact absurd yz (h2 e he)
  rw [h1];simp only [aiU,ai2,hz,ajd,Dj,hzero ks hk Dj,UC]
 ·obtain⟨m,hm1,Xz,Z7,hm4⟩:=B9.keys e (ajn h2);have:m=ks:=h.inj hm1 hk (Xz.symm.trans h3);subst this;rw [h1];simp only [aiU,Z7,hm4];cases comma<;>rfl
theorem yA{t kt vt:TypeId}(hm:P.underlying t=some (.map kt vt)){kl:List IntKind}{ka comma:Bool}(h:Cg P kt kl ka){ks:List Int}(hk:ks.length=kl.length)
  {z:Value} (hz:(zeroValue vt).run P w= .ok z w):
  (Instr.lookup t (.map none) (ew ka kl ks) comma).run P w= .ok (if comma then .tuple #[z,.bool false]else z) w:=by
 have Mp:=ff (P:=P) (w:=w) (#[]:Array MapEntry).isEmpty 9988 12 kt _ h.lay _ _ (qI hk) (h.val hk);simp only [Instr.lookup,ai2,run_underlying hm,aiU,Mp,ajd];have hf:(Instr.findKey kt (ew ka kl ks) (#[]:Array MapEntry).toList).run P w= .ok none w:=by
  rcases kS (P:=P) (w:=w) h hk [] (by simp)with⟨h1,_⟩ | ⟨j,e,_,h2,_⟩
  ·exact h1
  ·simp at h2
 rw [hf];simp only [aiU,ai2,hz,ajd]
theorem vL(n:Nat): ∀(l:List Value),(∀u∈l,∃k m,u= .int k m)→((l.zip l).all fun(x,y)=>Instr.sameBits n x y)=true
 | [],_=>rfl
 | u::r,h=>by
  obtain⟨k,m,rfl⟩:=h u (by simp);have:=vL n r (fun x hx=>h x (by simp [hx]));simp only [List.zip_cons_cons,List.all_cons,this,Bool.and_true];cases n<;>simp [Instr.sameBits]
theorem KH(v:Value)(kl:List IntKind)(ka:Bool)(ks:List Int)(hk:ks.length=kl.length)(h1:ka=false→∃k,kl=[k])(hv:v=ew ka kl ks):
  (Instr.keyThatStays v (ew ka kl ks)).run P w= .ok (ew ka kl ks) w:=by
 subst hv;have:Instr.sameBits 10000 (ew ka kl ks) (ew ka kl ks)=true:=by
  cases ka with
  | true=>
   rw [s6];simp only [Instr.sameBits,beq_self_eq_true,Bool.true_and];exact vL _ _ QL
  | false=>
   obtain⟨k,rfl⟩:=h1 rfl
   match ks,hk with
   | [x],_=>simp [ew,Instr.sameBits]
 simp [Instr.keyThatStays,this]
theorem pQ{t kt vt:TypeId}(hm:P.underlying t=some (.map kt vt)){kl:List IntKind}{ka va:Bool}(h:Cg P kt kl ka){ks:List Int}(hk:ks.length=kl.length)
  {b:Nat} {zero:List Value} {has:Nat→Bool} {row:Nat→List Value} {S:Nat→Prop} (hp:(vn b kl ka va zero has row).p w S) (v:Value) (vc:List Value) (hv:v=xI va vc)
  {GL:Nat→Bool} {Nc:Nat→List Value} (hh: ∀q,GL q=if q=bG ks then true else has q) (hr: ∀q,Nc q=if q=bG ks then vc else row q):
  ∃w',(Instr.mapUpdate t (.map (some b)) (ew ka kl ks) v).run P w= .ok () w'∧fZ w w'∧w'.heap.size=w.heap.size∧(∀k,k≠b→w'.heap[k]? =w.heap[k]?)∧
   (vn b kl ka va zero GL Nc).p w' S:=by
 obtain⟨hS,⟨es,clock,hb,B9⟩,hzero⟩:=hp;have h1k:ka=false→∃k,kl=[k]:=fun hk=>by obtain⟨k,h1,_⟩:=h.one hk;exact⟨k,h1⟩
 have Mp:=ff (P:=P) (w:=w) false 9988 12 kt _ h.lay _ _ (qI hk) (h.val hk);have dI: ∀m:List Int,m.length=kl.length→m≠ks→bG m≠bG ks:=fun m hm hn he=>hn (qH (hm.trans hk.symm) he)
 have XA:b<w.heap.size:=(aiY.1 hb).1;have Tp: ∀m:List Int,m.length=kl.length→GL (bG m)=false→Nc (bG m)=zero:=by
  intro m hm hf;rw [hh]at hf;split at hf
  ·cases hf
  ·rename_i abd;rw [hr,if_neg abd];exact hzero m hm hf
 rcases kS (P:=P) (w:=w) h hk es.toList (fun e he=>by obtain⟨m,h1,h2,_⟩:=B9.keys e he;exact⟨m,h1,h2⟩)with⟨h1,h2⟩ | ⟨j,e,h1,h2,h3⟩
 ·refine⟨{w with heap:=w.heap.setIfInBounds b (.map (es.push {key:=ew ka kl ks,val:=v,born:=clock}) (clock+1))},by simp only [Instr.mapUpdate,ai2,run_underlying hm,aiU,G9 hb,Mp,h1];exact Nb _ hb,⟨rfl,rfl,rfl,by simp⟩,by simp,fun k hk=>?_,hS,⟨es.push {key:=ew ka kl ks,val:=v,born:=clock},clock+1,?_,?_⟩,Tp⟩
  ·simp only [];rw [Array.getElem?_setIfInBounds_ne (Ne.symm hk)]
  ·simp [XA]
  ·rw [Array.toList_push];refine⟨fun e he=>?_,fun i j e e' hi hj heq=>?_,fun m hm Tq=>?_⟩
   ·rcases ajt.1 he with he | he
    ·obtain⟨m,m1,m2,m3,m4⟩:=B9.keys e he;have D6:m≠ks:=fun h=>h2 e he (by rw [m2,h])
     exact⟨m,m1,m2,by rw [hh,if_neg (dI m m1 D6)];exact m3,by rw [hr,if_neg (dI m m1 D6)];exact m4⟩
    ·simp only [ajo]at he;subst he;exact⟨ks,hk,rfl,by rw [hh,if_pos rfl],by rw [hr,if_pos rfl];exact hv⟩
   ·rw [List.getElem?_append]at hi hj;split at hi<;>split at hj
    ·exact B9.once i j e e' hi hj heq
    ·rename_i a1 a2;exfalso;have:e'={key:=ew ka kl ks,val:=v,born:=clock}:=by
      have:=ajn hj;simpa using this
     subst this;exact h2 e (ajn hi) heq
    ·exfalso;have:e={key:=ew ka kl ks,val:=v,born:=clock}:=by
      have:=ajn hi;simpa using this
     subst this;exact h2 e' (ajn hj) heq.symm
    ·have g1:=(aiN.1 hi).1;have g2:=(aiN.1 hj).1;simp only [List.length_cons,List.length_nil]at g1 g2;omega
   ·by_cases XC:m=ks
    ·subst XC;exact⟨_,List.mem_append_right _ (ajo.2 rfl),rfl⟩
    ·rw [hh,if_neg (dI m hm XC)]at Tq;obtain⟨e,he,yz⟩:=B9.all m hm Tq;exact⟨e,List.mem_append_left _ he,yz⟩
 ·have hj:es[j]? =some e:=by rw [←Array.getElem?_toList];exact h2
  have zU:=KH (P:=P) (w:=w) e.key kl ka ks hk h1k h3;refine⟨{w with heap:=w.heap.setIfInBounds b (.map (es.modify j fun e=>{e with key:=ew ka kl ks,val:=v}) clock)},by simp only [Instr.mapUpdate,ai2,run_underlying hm,aiU,G9 hb,Mp,h1,hj,ajI,ajh,zU];exact Nb _ hb,⟨rfl,rfl,rfl,by simp⟩,by simp,fun k hk=>?_,hS,⟨es.modify j fun e=>{e with key:=ew ka kl ks,val:=v},clock,?_,?_⟩,Tp⟩
  ·simp only [];rw [Array.getElem?_setIfInBounds_ne (Ne.symm hk)]
  ·simp [XA]
  ·have D_: ∀(i:Nat),(es.modify j fun e=>{e with key:=ew ka kl ks,val:=v}).toList[i]? =if j=i then(es.toList[i]?).map (fun e=>{e with key:=ew ka kl ks,val:=v})else es.toList[i]? :=by
    intro i;rw [Array.getElem?_toList,Array.getElem?_modify,Array.getElem?_toList]
   have KJ: ∀(i:Nat) e0,(es.modify j fun e=>{e with key:=ew ka kl ks,val:=v}).toList[i]? =some e0→∃e1,es.toList[i]? =some e1∧e0.key=e1.key∧(i≠j→e0=e1)∧(i=j→e0.val=v):=by
    intro i e0 hi;rw [D_]at hi;split at hi
    ·rename_i pR;subst pR;rw [h2,ajI,aiP]at hi;subst hi;exact⟨e,h2,h3.symm,fun h=>absurd rfl h,fun _=>rfl⟩
    ·rename_i pR;exact⟨e0,hi,rfl,fun _=>rfl,fun h=>absurd h.symm pR⟩
   refine⟨fun e0 XD=>?_,fun i i' e0 e0' hi mv heq=>?_,fun m hm Tq=>?_⟩
   ·obtain⟨i,hi⟩:=List.getElem?_of_mem XD;obtain⟨e1,g1,g2,g3,g4⟩:=KJ i e0 hi;by_cases pR:i=j
    ·subst pR;rw [h2,aiP]at g1;subst g1;exact⟨ks,hk,by rw [g2,h3],by rw [hh,if_pos rfl],by rw [hr,if_pos rfl,g4 rfl];exact hv⟩
    ·have:=g3 pR;subst this;obtain⟨m,m1,m2,m3,m4⟩:=B9.keys e0 (ajn g1);have D6:m≠ks:=fun h=>pR (B9.once i j e0 e g1 h2 (by rw [m2,h3,h]))
     exact⟨m,m1,m2,by rw [hh,if_neg (dI m m1 D6)];exact m3,by rw [hr,if_neg (dI m m1 D6)];exact m4⟩
   ·obtain⟨e1,g1,g2,_⟩:=KJ i e0 hi;obtain⟨e1',g1',g2',_⟩:=KJ i' e0' mv;exact B9.once i i' e1 e1' g1 g1' (by rw [←g2,←g2',heq])
   ·have: ∃e1∈es.toList,e1.key=ew ka kl m:=by
     by_cases XC:m=ks
     ·subst XC;exact⟨e,ajn h2,h3⟩
     ·rw [hh,if_neg (dI m hm XC)]at Tq;exact B9.all m hm Tq
    obtain⟨e1,he1,yz⟩:=this;obtain⟨i,hi⟩:=List.getElem?_of_mem he1;have:=D_ i;by_cases pR:j=i
    ·rw [if_pos pR,hi,ajI]at this;refine⟨_,ajn this,?_⟩;subst pR;rw [h2,aiP]at hi;subst hi;rw [←yz,h3]
    ·rw [if_neg pR,hi]at this;exact⟨e1,ajn this,yz⟩
end
end Go.RX
