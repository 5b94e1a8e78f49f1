/- Executor. -/
import Derived.Test.YtmgbbbmdbpbeeaaRxOd
open Bool renaming and_eq_true → ai
open Go.Builtin renaming zeroCells → adX
open Go.Result renaming andThen_ok → adC
open Go.Sem renaming run_bind → adL, run_pure → ad_
open Int renaming toNat → ag
open List renaming eq_nil_of_length_eq_zero → adR, map_cons → adT, mem_cons_of_mem → adB
open Option renaming getD_some → aee, map_eq_some_iff → adw
open Option.some renaming injEq → adv
namespace Go.RX
section
variable {P:Program} {ρ:Env} {w:World} {look:Nat→Option SV} {vals:Operand→Value} {hp:List Ck} {S:Nat→Nat→Prop} {nb nv:Nat} {T:List TI}
theorem fk: ∀{l:List SV} {aH:List bS},jd l aH=true→∀i:Nat,rowAt ρ aH i=SV.aB ρ l
 | [],[],_,_=>rfl
 | [],_::_,h,_=>by simp [jd]at h
 | v::r,[],h,_=>by cases v<;>simp [jd]at h
 | v::r,c::aH,h,i=>by
  unfold jd at h;split at h
  ·rename_i h1 _;cases h1
  ·rename_i k r' k' w aT h1 h2;cases h1;cases h2;simp only [ai,beq_iff_eq]at h;obtain⟨⟨rfl,rfl⟩,h⟩:=h;have:=fk h i;simp only [rowAt,adT,List.flatMap_cons,SV.aB,SV.cells]at this ⊢;rw [this];simp [bS.cells,aJ,aj,E.den]
  ·rename_i r' w aT h1 h2;cases h1;cases h2;simp only [ai,beq_iff_eq]at h;obtain⟨rfl,h⟩:=h;have:=fk h i;simp only [rowAt,adT,List.flatMap_cons,SV.aB,SV.cells]at this ⊢;rw [this];simp [bS.cells,zu,E.den,BE.den]
  ·rename_i k n r' k' w aT h1 h2;cases h1;cases h2;simp only [ai,beq_iff_eq]at h;obtain⟨⟨rfl,rfl⟩,h⟩:=h;have:=fk h i;simp only [rowAt,adT,List.flatMap_cons,SV.aB,SV.cells]at this ⊢;rw [this];simp only [bS.cells,aJ];congr 1
  ·rename_i r' w aT h1 h2;cases h1;cases h2;simp only [ai,beq_iff_eq]at h;obtain⟨rfl,h⟩:=h;have:=fk h i;simp only [rowAt,adT,List.flatMap_cons,SV.aB,SV.cells]at this ⊢;rw [this];simp [bS.cells,xx,E.den,mM]
  ·rename_i r' w a' aT h1 h2;cases h1;cases h2;simp only [ai,beq_iff_eq]at h;obtain⟨rfl,h⟩:=h;have:=fk h i;simp only [rowAt,adT,List.flatMap_cons,SV.aB,SV.cells]at this ⊢;rw [this];simp [bS.cells,gX]
  ·rename_i r' w aT h1 h2;cases h1;cases h2;simp only [ai,beq_iff_eq]at h;obtain⟨rfl,h⟩:=h;have:=fk h i;simp only [rowAt,adT,List.flatMap_cons,SV.aB,SV.cells]at this ⊢;rw [this];simp [bS.cells,gX,E.den,oA,bZ]
  ·cases h
theorem eC{te:TI}{z:List bS}(h:gf T te=some z):(∀i:Nat,rowAt ρ z i=SV.aB ρ te.zero)∧bT z=te.size∧0<te.size:=by
 unfold gf at h;split at h
 ·split at h
  ·rename_i hc;cases h;simp only [ai,beq_iff_eq,Bool.not_eq_true',beq_eq_false_iff_ne]at hc;exact⟨fun i=>fk hc.1.1 i,hc.1.2,by omega⟩
  ·cases h
 ·cases h
theorem sn{te:TI}{z:List bS}(h:gf T te=some z)(n:Nat):aN ρ n z=(List.replicate n (SV.aB ρ te.zero)).flatten:=by
 rw [cg,cy fun i _=>(eC h).1 i];unfold fp
 induction n with
 | zero=>rfl
 | succ n ih=>rw [List.range_succ,List.flatMap_append,ih,List.replicate_succ',List.flatten_append];simp
theorem zR(hT:bC P T=true){ts:TypeId}{tt:TI}(eN:aU T ts=some tt){n c:E}{res:gx}(h:CM T nv tt.k n c=some res)(bV: ∀b∈res.vcs,b.prop ρ)
  (k k':IntKind):
  Did P ρ w hp S nb nv ((do pure (.value (←Instr.makeSlice ts (.int k (n.den ρ 0)) (.int k' (c.den ρ 0)))):Sem Next).run P w) res:=by
 unfold CM at h;split at h
 ·rename_i t hk;split at h
  ·rename_i te gi;obtain⟨rfl,nQ⟩:=aG hT eN;obtain⟨rfl,cF⟩:=aG hT gi;have cL:=nQ.kind;rw [hk]at cL;have hu:=bI cL;obtain⟨i,hi,eL,s9,z,hz,hc⟩:=cF.info;have oK:z.cells.size=te.size:=by rw [←Array.length_toList,←hc ρ,bz,cF.zt]
   split at h
   ·rename_i zc zx;cases h;simp only at bV;obtain⟨v1,v3⟩:=bB bV;obtain⟨v1,v2⟩:=bB v1;have v1:=a_ v1;have v2:=a_ v2;simp only [E.den]at v1;obtain⟨b1,b2⟩:=fV (n:=c) (bytes:=te.bytes) (v3 _ (by simp)) (by omega);obtain⟨z1,z2,z3⟩:=eC (ρ:=ρ) zx;have Up:(i.bytes:Int)*c.den ρ 0≤281474976710656:=by
     have:((i.bytes*(c.den ρ 0).toNat:Nat):Int)≤281474976710656:=by rw [s9,Nat.mul_comm];omega
     rw [Int.natCast_mul,Int.toNat_of_nonneg (by omega)]at this;exact this
    have hr:=run_make (P:=P) w tt.t te.t i z hu hi hz k k' (n.den ρ 0) (c.den ρ 0) v1 v2 Up (by omega);have eO:(madeCells z.cells ((c.den ρ 0).toNat*i.size)).toList=aN ρ (c.den ρ 0).toNat zc:=by
     rw [sn zx,hc ρ,eL,←oK];unfold madeCells;exact r9 _ _ (by omega)
    refine⟨te.t,te.size,n,zc,.slice (some ⟨w.heap.size,0,none⟩) (n.den ρ 0).toNat (c.den ρ 0).toNat,w.alloc (.cells (madeCells z.cells ((c.den ρ 0).toNat*i.size)) te.t),fun k=>k=w.heap.size,rfl,rfl,by simp only [adL,hr,adC,ad_],rfl,⟨rfl,rfl,rfl,by simp⟩,fun k hk=>heap_alloc_old w _ hk,⟨?_,?_⟩,?_⟩
    ·simp only [if_true];refine⟨by rw [cZ,z2],.inr ⟨w.heap.size,0,_,_,rfl,⟨_,_,heap_alloc_new w _,.zero _⟩,by omega,by unfold maxLen;omega,fun _=>?_,?_⟩⟩
     ·rw [size_madeCells,eL,Nat.zero_add];exact Nat.le_refl _
     ·rw [eO,←z2,List.drop_zero,pO _ _ _ (by omega)]
    ·intro k;simp only [Value.ownBlock,adv];exact⟨fun h=>⟨h.symm,.inl trivial⟩,fun h=>h.1.symm⟩
    ·rintro k rfl;simp
   ·cases h
  ·cases h
 ·cases h
theorem yZ(hT:bC P T=true){ti te:TI}{t:TypeId}(ht:aU T t=some ti){e:Nat}(hk:ti.k= .slice e)(gi:aU T e=some te){zc:List bS}(_:gf T te=some zc):
  Did P ρ w hp S nb nv ((do pure (.value (←Instr.buildSlice t 0 #[])):Sem Next).run P w) {val:= .vv nv,gg:= .own (.bu true nv e te.size (.lit 0) zc)}:=by
 obtain⟨rfl,cF⟩:=aG hT ht;obtain⟨rfl,JA⟩:=aG hT gi;have cL:=cF.kind;rw [hk]at cL;have hu:=bI cL;have hr:(Instr.buildSlice ti.t 0 #[]).run P w= .ok (.slice (some ⟨w.heap.size,0,none⟩) 0 0) (w.alloc (.cells #[] te.t)):=by
  simp [Instr.buildSlice,run_underlying hu,JA.sizeOf w,Instr.fill,newRow,Array.range_zero']
 refine⟨te.t,te.size,.lit 0,zc,.slice (some ⟨w.heap.size,0,none⟩) 0 0,w.alloc (.cells #[] te.t),fun k=>k=w.heap.size,rfl,rfl,by simp only [adL,hr,adC,ad_],rfl,⟨rfl,rfl,rfl,by simp⟩,fun k hk=>heap_alloc_old w _ hk,⟨?_,?_⟩,?_⟩
 ·simp only [if_true];refine⟨by simp [E.den,aN,aK],.inr ⟨w.heap.size,0,0,#[],rfl,⟨_,_,heap_alloc_new w _,.zero _⟩,Nat.le_refl _,Nat.zero_le _,by simp,by simp [E.den,aN,aK]⟩⟩
 ·intro k;simp only [Value.ownBlock,adv];exact⟨fun h=>⟨h.symm,.inl trivial⟩,fun h=>h.1.symm⟩
 ·rintro k rfl;simp
theorem IV{x:SV}{r:Rt}(hr:eZ hp x=some r)(cJ:Reads hp ρ w S [r.j])(hv: ∀b∈r.vcs,b.prop ρ)(Hq:r.md=true)(hw:r.s=bT r.aH)(hl:0≤r.p.len.den ρ 0)
  {m:E} (hm:0≤m.den ρ 0) (hle:m.den ρ 0≤r.p.len.den ρ 0) {sc aT:List bS} (hs:bT sc=r.s) (dP:fK r.p.lo m r.aH sc=some aT):
  ∃a c,x.val ρ= .slice a (r.p.len.den ρ 0).toNat c∧∃w',(∀ad,a=some ad→(storeCells ad (aN ρ (m.den ρ 0).toNat sc)).run P w= .ok () w')∧((m.den ρ 0).toNat=0→w'=w)∧(a=none→w'=w)∧
   HR P w ρ hp S r.j (.bu true r.v r.t r.s r.n aT) w':=by
 obtain⟨hj,dz⟩:=ek hr cJ hv;have hS:=cJ r.j (by simp) _ hj;have hS:(au true r.t r.s (ρ.vv.getD r.v V1.nil).v (r.n.den ρ 0).toNat (aN ρ (r.n.den ρ 0).toNat r.aH)).p w (S r.j):=by
  rw [Hq]at hS;exact hS
 obtain⟨h1,h2,h3,a,c,k,Wk,hc,hx,hk⟩:=dz;obtain⟨c1,c2,c3⟩:=fc (ρ:=ρ) h1 hm dP;have Nu:=xQ (f:=rowAt ρ r.aH) (g:=rowAt ρ sc) (h:=rowAt ρ aT) (s:=r.s) (fun i=>by rw [cY];exact hw.symm) (r.n.den ρ 0).toNat (r.p.lo.den ρ 0).toNat (m.den ρ 0).toNat (by omega) c3;have rJ:(aN ρ (m.den ρ 0).toNat sc).length=(m.den ρ 0).toNat*r.s:=by rw [cZ,hs]
 have Ti:(r.p.lo.den ρ 0).toNat*r.s+(aN ρ (m.den ρ 0).toNat sc).length≤(aN ρ (r.n.den ρ 0).toNat r.aH).length:=by
  rw [rJ,cZ,←hw,←Nat.add_mul];exact Nat.mul_le_mul_right _ (by omega)
 have Fz:a=none→(m.den ρ 0).toNat=0:=by
  rintro rfl;obtain⟨_,_,he,ke,_⟩:=(BQ hS).1;rw [Wk]at he;cases he;have:=ke rfl;omega
 obtain⟨w',g1,g2,g3,g4,g5,g6⟩:=Bb (P:=P) hS ((r.p.lo.den ρ 0).toNat*r.s) Ti (nN _ _) ((a.getD ⟨0,0,none⟩).add ((r.p.lo.den ρ 0).toNat*r.s)) (fun IU=>by
  rw [Wk];cases a with
  | none=>
   have:=Fz rfl;rw [rJ,this,Nat.zero_mul]at IU;omega
  | some a=>rfl)
 have hz:(m.den ρ 0).toNat=0→aN ρ (m.den ρ 0).toNat sc=[]:=fun h=>adR (by rw [rJ,h,Nat.zero_mul])
 refine⟨_,_,hx,w',?_,fun h=>g6 (hz h),fun h=>?_,⟨⟨_,hj,by rw [Hq];rfl⟩,rfl,g2,g3,g4,?_⟩⟩
 ·intro ad oC;by_cases h0:(m.den ρ 0).toNat=0
  ·rw [hz h0]at g6 ⊢;rw [g6 rfl];rfl
  ·cases a with
   | none=>simp at oC
   | some a0=>
    simp only [Option.map_some,adv]at oC;subst oC;have JE:(r.p.lo.den ρ 0).toNat<((r.p.mx.map fun m=>m.den ρ 0).map ag).getD c:=by
     cases QY:(r.p.mx.map fun m=>m.den ρ 0)with
     | none=>simp only [Option.map_none,Option.getD_none];omega
     | some q=>have:=h3 q QY;simp only [Option.map_some,aee];omega
    rw [hk (.inl JE)];exact g1
 ·cases a with
  | some a=>simp at h
  | none=>exact g6 (hz (Fz rfl))
 ·simp only [Ck.den];rw [cg,Nu];rw [rJ]at g5;exact g5
theorem Kv{te:TI}{z:Value}{zc:List bS}(zx:gf T te=some zc)(hc:SV.aB ρ te.zero=z.cells.toList)(oK:z.cells.size=te.size)(n:Nat):
  (adX z.cells n).toList=aN ρ n zc:=by
 obtain⟨z1,z2,z3⟩:=eC (ρ:=ρ) zx;rw [sn zx,hc];unfold adX;exact r9 _ _ (by omega)
theorem y0(hT:bC P T=true){ts:TypeId}{tt:TI}(eN:aU T ts=some tt){x:SV}{res:gx}(h:yQ T hp tt.k x=some res)
  (cJ:Reads hp ρ w S res.rd) (bV: ∀b∈res.vcs,b.prop ρ) (ty:TypeId):
  Did P ρ w hp S nb nv ((do pure (.value (←Builtin.clear_ #[ts] ty #[x.val ρ])):Sem Next).run P w) res:=by
 unfold yQ at h;split at h
 ·rename_i e hk;cases h;obtain⟨rfl,nQ⟩:=aG hT eN;have cL:=nQ.kind;rw [hk]at cL;have hu:=bI cL;show(Sem.run P _ w)= .ok (Next.value (SV.undef.val ρ)) w;simp [Builtin.clear_,run_underlying hu,SV.val,undef]
 ·rename_i e hk _;split at h
  ·rename_i te r gi hr;obtain⟨rfl,nQ⟩:=aG hT eN;obtain⟨rfl,cF⟩:=aG hT gi;have cL:=nQ.kind;rw [hk]at cL;have hu:=bI cL;obtain⟨i,hi,eL,s9,z,hz,hc⟩:=cF.info;have oK:z.cells.size=te.size:=by rw [←Array.length_toList,←hc ρ,bz,cF.zt]
   split at h
   ·rename_i zc zx;split at h
    ·rename_i gK;obtain⟨hs,hw,Hq⟩:=gK;rw [adw]at h;obtain⟨aT,dP,rfl⟩:=h;simp only at bV cJ;obtain⟨v1,v2⟩:=bB bV;have v2:=a_ v2;simp only [E.den]at v2;obtain⟨_,z2,z3⟩:=eC (ρ:=ρ) zx;obtain⟨a,c,hx,w',s1,s2,s3,s4⟩:=IV (P:=P) hr cJ v1 Hq hw v2 v2 (Int.le_refl _) (z2.trans hs.symm) dP;refine⟨w',.inl ?_,s4⟩;rw [hx];cases a with
     | none=>
      rw [s3 rfl];simp [Builtin.clear_,run_underlying hu,SV.val,undef]
     | some ad=>
      by_cases h0:(r.p.len.den ρ 0).toNat=0
      ·rw [s2 h0,h0];simp [Builtin.clear_,run_underlying hu,SV.val,undef]
      ·obtain⟨N,hN⟩: ∃N,(r.p.len.den ρ 0).toNat=N+1:=⟨(r.p.len.den ρ 0).toNat - 1,by omega⟩;have zi:=s1 ad rfl;rw [←Kv zx (hc ρ) oK,hN]at zi;rw [hN];obtain⟨z',Gf,_⟩:=cF.zero w;have hzz:(zeroValue te.t).run P w= .ok z w:=by simp [zeroValue,typeInfo,hi,hz]
       simp [Builtin.clear_,run_underlying hu,hzz,zi,SV.val,undef]
    ·cases h
   ·cases h
  ·cases h
 ·cases h
theorem pP(a b:E):(vY a b).den ρ 0=min (a.den ρ 0) (b.den ρ 0):=by
 unfold vY;split
 ·rfl
 ·split
  ·rename_i h;subst h;simp
  ·simp only [E.den,ak];omega
theorem od(ts ty e:TypeId)(i:TypeInfo)(ht:P.underlying ts=some (.slice e))(hi:P.info? e=some i)(a:Option Addr)(N C:Nat)(y:Value)(m:Nat)(news:List Value)
  (hy:World.uW w y m news) (hl:news.length=m*i.size) {w':World} (hs: ∀ad,a=some ad→(storeCells ad (news.take (Nat.min m N*i.size))).run P w= .ok () w') (hn:a=none→w'=w):
  (Builtin.copy_ #[ts,ts] ty #[.slice a N C,y]).run P w= .ok (goInt (Nat.min m N)) w':=by
 obtain⟨q1,q2⟩:=vE (P:=P) hy hl;have q2:=q2 (Nat.min m N) (Nat.min_le_left _ _);cases a with
 | none=>
  have:=hn rfl;subst this;simp [Builtin.copy_,run_underlying ht,sizeOf,typeInfo,hi,q1,q2]
 | some ad=>
  have:=hs ad rfl;simp [Builtin.copy_,run_underlying ht,sizeOf,typeInfo,hi,q1,q2,this]
theorem Qu(k:IntKind)(N i m:Nat)(f g h:Nat→Int)(hle:i+m≤N)(hh: ∀j,h j=if i≤j∧j<i+m then g (j - i)else f j):
  aj k N h=(aj k N f).take i++aj k m g++(aj k N f).drop (i+m):=by
 have e: ∀(n:Nat) (q:Nat→Int),aj k n q=fp (fun j=>[.int k (q j)]) n:=by
  intro n q;unfold aj fp
  induction n with
  | zero=>rfl
  | succ n ih=>rw [List.range_succ,List.flatMap_append,List.map_append,ih];simp
 have:=xQ (f:=fun j=>[.int k (f j)]) (g:=fun j=>[.int k (g j)]) (h:=fun j=>[.int k (h j)]) (s:=1) (fun _=>rfl) N i m hle (fun j=>by rw [hh];split<;>rfl);rw [Nat.mul_one,Nat.mul_one]at this;rw [e,e,e];exact this
theorem zS(hT:bC P T=true){ts:TypeId}{tt:TI}(eN:aU T ts=some tt){x y:SV}{res:gx}(h:CL T hp tt.k x y=some res)
  (cJ:Reads hp ρ w S res.rd) (bV: ∀b∈res.vcs,b.prop ρ) (ty:TypeId):
  Did P ρ w hp S nb nv ((do pure (.value (←Builtin.copy_ #[ts,ts] ty #[x.val ρ,y.val ρ])):Sem Next).run P w) res:=by
 unfold CL at h;split at h
 ·rename_i t hk;split at h
  ·rename_i te gi;obtain⟨rfl,nQ⟩:=aG hT eN;obtain⟨rfl,cF⟩:=aG hT gi;have cL:=nQ.kind;rw [hk]at cL;have hu:=bI cL;obtain⟨i,hi,eL,s9,z,hz,hc⟩:=cF.info;split at h
   ·rename_i sc iA;split at h
    ·rename_i b ix s n cap;split at h
     ·rename_i j b' cs hf;obtain⟨hj,dD⟩:=cH hf;simp only [Ck.qs,beq_iff_eq]at dD;subst dD;split at h
      ·cases h
      ·rename_i BM;have hs:s=te.size:=by
        apply Classical.byContradiction;intro dR;exact BM (.inl dR)
       split at h
       ·rename_i k N a;split at h
        ·rename_i k' a' dP;split at h
         ·rename_i gK;obtain⟨jT,rfl⟩:=gK;cases h;simp only at bV cJ;obtain⟨v1,v5⟩:=bB bV;obtain⟨v1,v4⟩:=bB v1;obtain⟨v1,v3⟩:=bB v1;obtain⟨v1,v2⟩:=bB v1;have v2:=a_ v2;have v3:=a_ v3;have v4:=a_ v4;have v5:=a_ v5;rw [bH]at v5;simp only [E.den]at v2 v3 v4 v5;obtain⟨_,s2,s3⟩:=fe (te:=te) iA (fun j hj=>cJ j (adB _ hj)) v1 v2;have hS:=cJ j (by simp) _ hj;have hS:(aq (ρ.bv.getD b 0) true (aj k N (a.den ρ))).p w (S j):=by
           simpa [Ck.den,SV.aB,SV.cells] using hS
          rw [dP]at s3;have Fy:((vY sc.n n).den ρ 0).toNat=Nat.min (sc.n.den ρ 0).toNat (n.den ρ 0).toNat:=by
           rw [pP];simp only [Nat.min_def,Int.min_def];split<;>split<;>omega
          have Nv:Nat.min (sc.n.den ρ 0).toNat (n.den ρ 0).toNat≤(sc.n.den ρ 0).toNat:=Nat.min_le_left _ _;have VO:Nat.min (sc.n.den ρ 0).toNat (n.den ρ 0).toNat≤(n.den ρ 0).toNat:=Nat.min_le_right _ _;have C7:(aN ρ (sc.n.den ρ 0).toNat [⟨.int k,1,a'⟩]).take (Nat.min (sc.n.den ρ 0).toNat (n.den ρ 0).toNat*i.size)=aj k (Nat.min (sc.n.den ρ 0).toNat (n.den ρ 0).toNat) (a'.den ρ):=by
           rw [dE,eL,←hs,jT,Nat.mul_one];exact dq k _ _ _ Nv
          obtain⟨g1,g2⟩:=pU (P:=P) hS (ix.den ρ 0).toNat (vs:=aj k (Nat.min (sc.n.den ρ 0).toNat (n.den ρ 0).toNat) (a'.den ρ)) (by rw [aF,aF];omega)
           (fun u hu=>by simp only [aj,List.mem_map]at hu;obtain⟨_,_,rfl⟩:=hu;rfl)
          have gO:=od (P:=P) tt.t ty te.t i hu hi (some ⟨ρ.bv.getD b 0,(ix.den ρ 0).toNat*s,none⟩) (n.den ρ 0).toNat (cap.den ρ 0).toNat _ _ _ s3 (by rw [dE,aF,eL,←hs,jT,Nat.mul_one])
           (fun ad oC=>by
            cases oC;rw [C7,jT,Nat.mul_one];exact g1) (by simp)
          refine⟨w.setCells (ρ.bv.getD b 0) (ix.den ρ 0).toNat (aj k (Nat.min (sc.n.den ρ 0).toNat (n.den ρ 0).toNat) (a'.den ρ)),.inl ?_,⟨⟨_,hj,rfl⟩,rfl,gZ _ _ _ _,gY _ _ _ _,fun k hk=>fT _ _ _ _ _ (fun e=>hk ((hS.1 k).2 e)),?_⟩⟩
          ·have e1:(SV.sl b ix s n cap).val ρ= .slice (some ⟨ρ.bv.getD b 0,(ix.den ρ 0).toNat*s,none⟩) (n.den ρ 0).toNat (cap.den ρ 0).toNat:=rfl;rw [e1];simp only [adL,gO,adC,ad_,SV.val,goInt];congr 3;have:0≤(vY sc.n n).den ρ 0:=by rw [pP];omega
           omega
          ·rw [aF]at g2;have:=Qu k N (ix.den ρ 0).toNat (Nat.min (sc.n.den ρ 0).toNat (n.den ρ 0).toNat) (a.den ρ) (a'.den ρ) ((E.s7 a ix (vY sc.n n) a').den ρ) (by omega) (fun j=>by simp only [E.den,Fy]);simp only [Ck.den,SV.aB,SV.cells,List.append_nil];rw [this];exact g2
         ·cases h
        ·cases h
       ·split at h
        ·rename_i i0 n0 m0 k' a' KQ TD JD dP;split at h
         ·rename_i jT;rw [adw]at h;obtain⟨zh,o5,rfl⟩:=h;simp only at bV cJ;have di:=cl (ρ:=ρ) KQ;have dn:=cl (ρ:=ρ) TD;have dm:=cl (ρ:=ρ) JD;obtain⟨_,s2,s3⟩:=fe (te:=te) iA (fun j hj=>cJ j (adB _ hj)) bV (by omega);have hS:=cJ j (by simp) _ hj;rw [dP,dm,Int.toNat_natCast]at s3;obtain⟨p1,p2⟩:=nF ρ o5;have dF:SV.aB ρ [SV.cD k' (min m0 n0) a']=aj k' (min m0 n0) (a'.den ρ):=by simp [SV.aB,SV.cells]
          rw [dF]at p1 p2;obtain⟨g1,g2⟩:=pU (P:=P) hS i0 p2 (fun u hu=>by simp only [aj,List.mem_map]at hu;obtain⟨_,_,rfl⟩:=hu;rfl);have C7:(aN ρ m0 [⟨.int k',1,a'⟩]).take (Nat.min m0 n0*i.size)=aj k' (min m0 n0) (a'.den ρ):=by
           rw [dE,eL,←hs,jT,Nat.mul_one];exact dq k' _ _ _ (Nat.min_le_left _ _)
          have gO:=od (P:=P) tt.t ty te.t i hu hi (some ⟨ρ.bv.getD b 0,i0,none⟩) n0 (cap.den ρ 0).toNat _ _ _ s3 (by rw [dE,aF,eL,←hs,jT,Nat.mul_one])
           (fun ad oC=>by
            cases oC;rw [C7];exact g1) (by simp)
          refine⟨w.setCells (ρ.bv.getD b 0) i0 (aj k' (min m0 n0) (a'.den ρ)),.inl ?_,⟨⟨_,hj,rfl⟩,rfl,gZ _ _ _ _,gY _ _ _ _,fun k hk=>fT _ _ _ _ _ (fun e=>hk ((hS.1 k).2 e)),?_⟩⟩
          ·have e1:(SV.sl b ix s n cap).val ρ= .slice (some ⟨ρ.bv.getD b 0,i0,none⟩) n0 (cap.den ρ 0).toNat:=by simp [SV.val,di,dn,jT]
           rw [e1];simp only [adL,gO,adC,ad_,SV.val,goInt,E.den]
          ·simp only [Ck.den,p1];exact g2
         ·cases h
        ·cases h
     ·cases h
    ·split at h
     ·rename_i r hr;split at h
      ·rename_i gK;obtain⟨ht,hs,hw,Hq,mg⟩:=gK;rw [adw]at h;obtain⟨aT,dP,rfl⟩:=h;simp only at bV cJ;obtain⟨v1,v4⟩:=bB bV;obtain⟨v1,v3⟩:=bB v1;obtain⟨v1,v2⟩:=bB v1;have v3:=a_ v3;have v4:=a_ v4;simp only [E.den]at v3 v4;have Th:Reads hp ρ w S [r.j]:=fun j hj=>cJ j (by simp at hj;simp [hj])
       obtain⟨_,s2,s3⟩:=fe (te:=te) iA (fun j hj=>cJ j (adB _ hj)) v2 v4;have JD:0≤(vY sc.n r.p.len).den ρ 0:=by rw [pP];omega
       have Yf:(vY sc.n r.p.len).den ρ 0≤r.p.len.den ρ 0:=by rw [pP];omega
       have Fy:((vY sc.n r.p.len).den ρ 0).toNat=Nat.min (sc.n.den ρ 0).toNat (r.p.len.den ρ 0).toNat:=by
        rw [pP];simp only [Nat.min_def,Int.min_def];split<;>split<;>omega
       obtain⟨a,c,hx,w',q1,q2,q3,q4⟩:=IV (P:=P) hr Th v1 Hq hw v3 JD Yf (s2.trans hs.symm) dP;refine⟨w',.inl ?_,by rw [←ht];exact q4⟩;have gO:=od (P:=P) tt.t ty te.t i hu hi a (r.p.len.den ρ 0).toNat c _ _ _ s3 (by rw [cZ,s2,eL]) (fun ad oC=>by
        have:=q1 ad oC;have ZT:=pO (ρ:=ρ) (sc.n.den ρ 0).toNat (Nat.min (sc.n.den ρ 0).toNat (r.p.len.den ρ 0).toNat) sc.aH (Nat.min_le_left _ _);rw [s2]at ZT;rw [eL,ZT,←Fy];exact this) q3
       rw [hx];simp only [adL,gO,adC,ad_,SV.val,goInt];congr 3;omega
      ·cases h
     ·cases h
   ·cases h
  ·cases h
 ·cases h
end
end Go.RX
