/- Executor. -/
import Derived.Test.YtmgbbbmdbpbeeaaGreatRxOd
open Bool renaming and_eq_true → ai
open Go.Builtin renaming zeroCells → afm
open Go.Result renaming andThen_ok → ae3
open Go.Sem renaming run_bind → afa, run_pure → afs
open Int renaming toNat → ag, toNat_natCast → afe
open List renaming eq_nil_of_length_eq_zero → aff, map_cons → afj, mem_cons_of_mem → ae4
open Option renaming getD_some → afG, map_eq_some_iff → aeY
open Option.some renaming injEq → aeX
namespace Go.RX
section
variable {P:Program} {ρ:Env} {w:World} {look:Nat→Option SV} {vals:Operand→Value} {hp:List Ck} {S:Nat→Nat→Prop} {nb nv:Nat} {T:List TI}
theorem fM: ∀{l:List SV} {aF:List bV},jg l aF=true→∀i:Nat,rowAt ρ aF i=SV.aC ρ l
 | [],[],_,_=>rfl
 | [],_::_,h,_=>by simp [jg]at h
 | v::r,[],h,_=>by cases v<;>simp [jg]at h
 | v::r,c::aF,h,i=>by
  unfold jg at h;split at h
  ·rename_i h1 _;cases h1
  ·rename_i k r' k' w aZ h1 h2;cases h1;cases h2;simp only [ai,beq_iff_eq]at h;obtain⟨⟨rfl,rfl⟩,h⟩:=h;have:=fM h i;simp only [rowAt,afj,List.flatMap_cons,SV.aC,SV.cells]at this ⊢;rw [this];simp [bV.cells,aO,al,E.den]
  ·rename_i r' w aZ h1 h2;cases h1;cases h2;simp only [ai,beq_iff_eq]at h;obtain⟨rfl,h⟩:=h;have:=fM h i;simp only [rowAt,afj,List.flatMap_cons,SV.aC,SV.cells]at this ⊢;rw [this];simp [bV.cells,zf,E.den,BE.den]
  ·rename_i k n r' k' w aZ h1 h2;cases h1;cases h2;simp only [ai,beq_iff_eq]at h;obtain⟨⟨rfl,rfl⟩,h⟩:=h;have:=fM h i;simp only [rowAt,afj,List.flatMap_cons,SV.aC,SV.cells]at this ⊢;rw [this];simp only [bV.cells,aO];congr 1
  ·rename_i r' w aZ h1 h2;cases h1;cases h2;simp only [ai,beq_iff_eq]at h;obtain⟨rfl,h⟩:=h;have:=fM h i;simp only [rowAt,afj,List.flatMap_cons,SV.aC,SV.cells]at this ⊢;rw [this];simp [bV.cells,xn,E.den,mU]
  ·rename_i r' w a' aZ h1 h2;cases h1;cases h2;simp only [ai,beq_iff_eq]at h;obtain⟨rfl,h⟩:=h;have:=fM h i;simp only [rowAt,afj,List.flatMap_cons,SV.aC,SV.cells]at this ⊢;rw [this];simp [bV.cells,ic]
  ·rename_i r' w aZ h1 h2;cases h1;cases h2;simp only [ai,beq_iff_eq]at h;obtain⟨rfl,h⟩:=h;have:=fM h i;simp only [rowAt,afj,List.flatMap_cons,SV.aC,SV.cells]at this ⊢;rw [this];simp [bV.cells,ic,E.den,oI,cj]
  ·cases h
theorem fg{te:TI}{z:List bV}(h:gG T te=some z):(∀i:Nat,rowAt ρ z i=SV.aC ρ te.zero)∧bW z=te.size∧0<te.size:=by
 unfold gG at h;split at h
 ·split at h
  ·rename_i hc;cases h;simp only [ai,beq_iff_eq,Bool.not_eq_true',beq_eq_false_iff_ne]at hc;exact⟨fun i=>fM hc.1.1 i,hc.1.2,by omega⟩
  ·cases h
 ·cases h
theorem sB{te:TI}{z:List bV}(h:gG T te=some z)(n:Nat):aM ρ n z=(List.replicate n (SV.aC ρ te.zero)).flatten:=by
 rw [ct,cH fun i _=>(fg h).1 i];unfold fT
 induction n with
 | zero=>rfl
 | succ n ih=>rw [List.range_succ,List.flatMap_append,ih,List.replicate_succ',List.flatten_append];simp
theorem zF(hT:bG P T=true){ts:TypeId}{tt:TI}(fq:a_ T ts=some tt){n c:E}{res:hZ}(h:Cv T nv tt.k n c=some res)(bY: ∀b∈res.vcs,b.prop ρ)
  (k k':IntKind):
  Did P ρ w hp S nb nv ((do pure (.value (←Instr.makeSlice ts (.int k (n.den ρ 0)) (.int k' (c.den ρ 0)))):Sem Next).run P w) res:=by
 unfold Cv at h;split at h
 ·rename_i t hk;split at h
  ·rename_i te gX;obtain⟨rfl,nW⟩:=aH hT fq;obtain⟨rfl,cQ⟩:=aH hT gX;have cX:=nW.kind;rw [hk]at cX;have hu:=bO cX;obtain⟨i,hi,fx,tA,z,hz,hc⟩:=cQ.info;have oM:z.cells.size=te.size:=by rw [←Array.length_toList,←hc ρ,bB,cQ.ze]
   split at h
   ·rename_i zc zi;cases h;simp only at bY;obtain⟨v1,v3⟩:=bD bY;obtain⟨v1,v2⟩:=bD v1;have v1:=bq v1;have v2:=bq v2;simp only [E.den]at v1;obtain⟨b1,b2⟩:=gC (n:=c) (bytes:=te.bytes) (v3 _ (by simp)) (by omega);obtain⟨z1,z2,z3⟩:=fg (ρ:=ρ) zi;have VA:(i.bytes:Int)*c.den ρ 0≤281474976710656:=by
     have:((i.bytes*(c.den ρ 0).toNat:Nat):Int)≤281474976710656:=by rw [tA,Nat.mul_comm];omega
     rw [Int.natCast_mul,Int.toNat_of_nonneg (by omega)]at this;exact this
    have hr:=run_make (P:=P) w tt.t te.t i z hu hi hz k k' (n.den ρ 0) (c.den ρ 0) v1 v2 VA (by omega);have ft:(madeCells z.cells ((c.den ρ 0).toNat*i.size)).toList=aM ρ (c.den ρ 0).toNat zc:=by
     rw [sB zi,hc ρ,fx,←oM];unfold madeCells;exact sr _ _ (by omega)
    refine⟨te.t,te.size,n,zc,.slice (some ⟨w.heap.size,0,none⟩) (n.den ρ 0).toNat (c.den ρ 0).toNat,w.alloc (.cells (madeCells z.cells ((c.den ρ 0).toNat*i.size)) te.t),fun k=>k=w.heap.size,rfl,rfl,by simp only [afa,hr,ae3,afs],rfl,⟨rfl,rfl,rfl,by simp⟩,fun k hk=>heap_alloc_old w _ hk,⟨?_,?_⟩,?_⟩
    ·simp only [if_true];refine⟨by rw [dj,z2],.inr ⟨w.heap.size,0,_,_,rfl,⟨_,heap_alloc_new w _⟩,by omega,by unfold maxLen;omega,fun _=>?_,?_⟩⟩
     ·rw [size_madeCells,fx,Nat.zero_add];exact Nat.le_refl _
     ·rw [ft,←z2,List.drop_zero,pR _ _ _ (by omega)]
    ·intro k;simp only [Value.ownBlock,aeX];exact⟨fun h=>⟨h.symm,.inl trivial⟩,fun h=>h.1.symm⟩
    ·rintro k rfl;simp
   ·cases h
  ·cases h
 ·cases h
theorem yK(hT:bG P T=true){ti te:TI}{t:TypeId}(ht:a_ T t=some ti){e:Nat}(hk:ti.k= .slice e)(gX:a_ T e=some te){zc:List bV}(_:gG T te=some zc):
  Did P ρ w hp S nb nv ((do pure (.value (←Instr.buildSlice t 0 #[])):Sem Next).run P w) {val:= .vv nv,hO:= .own (.bC true nv e te.size (.lit 0) zc)}:=by
 obtain⟨rfl,cQ⟩:=aH hT ht;obtain⟨rfl,JR⟩:=aH hT gX;have cX:=cQ.kind;rw [hk]at cX;have hu:=bO cX;have hr:(Instr.buildSlice ti.t 0 #[]).run P w= .ok (.slice (some ⟨w.heap.size,0,none⟩) 0 0) (w.alloc (.cells #[] te.t)):=by
  simp [Instr.buildSlice,run_underlying hu,JR.sizeOf w,Instr.fill,newRow,Array.range_zero']
 refine⟨te.t,te.size,.lit 0,zc,.slice (some ⟨w.heap.size,0,none⟩) 0 0,w.alloc (.cells #[] te.t),fun k=>k=w.heap.size,rfl,rfl,by simp only [afa,hr,ae3,afs],rfl,⟨rfl,rfl,rfl,by simp⟩,fun k hk=>heap_alloc_old w _ hk,⟨?_,?_⟩,?_⟩
 ·simp only [if_true];refine⟨by simp [E.den,aM,aQ],.inr ⟨w.heap.size,0,0,#[],rfl,⟨_,heap_alloc_new w _⟩,Nat.le_refl _,Nat.zero_le _,by simp,by simp [E.den,aM,aQ]⟩⟩
 ·intro k;simp only [Value.ownBlock,aeX];exact⟨fun h=>⟨h.symm,.inl trivial⟩,fun h=>h.1.symm⟩
 ·rintro k rfl;simp
theorem I3{x:SV}{r:Rt}(hr:fE hp x=some r)(cV:Reads hp ρ w S [r.j])(hv: ∀b∈r.vcs,b.prop ρ)(He:r.md=true)(hw:r.s=bW r.aF)(hl:0≤r.p.len.den ρ 0)
  {m:E} (hm:0≤m.den ρ 0) (hle:m.den ρ 0≤r.p.len.den ρ 0) {sc aZ:List bV} (hs:bW sc=r.s) (eB:gi r.p.lo m r.aF sc=some aZ):
  ∃a c,x.val ρ= .slice a (r.p.len.den ρ 0).toNat c∧∃w',(∀ad,a=some ad→(storeCells ad (aM ρ (m.den ρ 0).toNat sc)).run P w= .ok () w')∧((m.den ρ 0).toNat=0→w'=w)∧(a=none→w'=w)∧
   HT P w ρ hp S r.j (.bC true r.v r.t r.s r.n aZ) w':=by
 obtain⟨hj,dI⟩:=eQ hr cV hv;have hS:=cV r.j (by simp) _ hj;have hS:(aE true r.t r.s (ρ.vv.getD r.v V1.nil).v (r.n.den ρ 0).toNat (aM ρ (r.n.den ρ 0).toNat r.aF)).p w (S r.j):=by
  rw [He]at hS;exact hS
 obtain⟨h1,h2,h3,a,c,k,XD,hc,hx,hk⟩:=dI;obtain⟨c1,c2,c3⟩:=fG (ρ:=ρ) h1 hm eB;have Mt:=yI (f:=rowAt ρ r.aF) (g:=rowAt ρ sc) (h:=rowAt ρ aZ) (s:=r.s) (fun i=>by rw [dh];exact hw.symm) (r.n.den ρ 0).toNat (r.p.lo.den ρ 0).toNat (m.den ρ 0).toNat (by omega) c3;have rS:(aM ρ (m.den ρ 0).toNat sc).length=(m.den ρ 0).toNat*r.s:=by rw [dj,hs]
 have Uu:(r.p.lo.den ρ 0).toNat*r.s+(aM ρ (m.den ρ 0).toNat sc).length≤(aM ρ (r.n.den ρ 0).toNat r.aF).length:=by
  rw [rS,dj,←hw,←Nat.add_mul];exact Nat.mul_le_mul_right _ (by omega)
 have Ff:a=none→(m.den ρ 0).toNat=0:=by
  rintro rfl;obtain⟨_,_,he,ko,_⟩:=(Cz hS).1;rw [XD]at he;cases he;have:=ko rfl;omega
 obtain⟨w',g1,g2,g3,g4,g5,g6⟩:=AX (P:=P) hS ((r.p.lo.den ρ 0).toNat*r.s) Uu (nX _ _) ((a.getD ⟨0,0,none⟩).add ((r.p.lo.den ρ 0).toNat*r.s)) (fun I2=>by
  rw [XD];cases a with
  | none=>
   have:=Ff rfl;rw [rS,this,Nat.zero_mul]at I2;omega
  | some a=>rfl)
 have hz:(m.den ρ 0).toNat=0→aM ρ (m.den ρ 0).toNat sc=[]:=fun h=>aff (by rw [rS,h,Nat.zero_mul])
 refine⟨_,_,hx,w',?_,fun h=>g6 (hz h),fun h=>?_,⟨⟨_,hj,by rw [He];rfl⟩,rfl,g2,g3,g4,?_⟩⟩
 ·intro ad pW;by_cases h0:(m.den ρ 0).toNat=0
  ·rw [hz h0]at g6 ⊢;rw [g6 rfl];rfl
  ·cases a with
   | none=>simp at pW
   | some a0=>
    simp only [Option.map_some,aeX]at pW;subst pW;have JV:(r.p.lo.den ρ 0).toNat<((r.p.mx.map fun m=>m.den ρ 0).map ag).getD c:=by
     cases RR:(r.p.mx.map fun m=>m.den ρ 0)with
     | none=>simp only [Option.map_none,Option.getD_none];omega
     | some q=>have:=h3 q RR;simp only [Option.map_some,afG];omega
    rw [hk (.inl JV)];exact g1
 ·cases a with
  | some a=>simp at h
  | none=>exact g6 (hz (Ff rfl))
 ·simp only [Ck.den];rw [ct,Mt];rw [rS]at g5;exact g5
theorem KM{te:TI}{z:Value}{zc:List bV}(zi:gG T te=some zc)(hc:SV.aC ρ te.zero=z.cells.toList)(oM:z.cells.size=te.size)(n:Nat):
  (afm z.cells n).toList=aM ρ n zc:=by
 obtain⟨z1,z2,z3⟩:=fg (ρ:=ρ) zi;rw [sB zi,hc];unfold afm;exact sr _ _ (by omega)
theorem yL(hT:bG P T=true){ts:TypeId}{tt:TI}(fq:a_ T ts=some tt){x:SV}{res:hZ}(h:yB T hp tt.k x=some res)
  (cV:Reads hp ρ w S res.rd) (bY: ∀b∈res.vcs,b.prop ρ) (ty:TypeId):
  Did P ρ w hp S nb nv ((do pure (.value (←Builtin.clear_ #[ts] ty #[x.val ρ])):Sem Next).run P w) res:=by
 unfold yB at h;split at h
 ·rename_i e hk;cases h;obtain⟨rfl,nW⟩:=aH hT fq;have cX:=nW.kind;rw [hk]at cX;have hu:=bO cX;show(Sem.run P _ w)= .ok (Next.value (SV.undef.val ρ)) w;simp [Builtin.clear_,run_underlying hu,SV.val,undef]
 ·rename_i e hk _;split at h
  ·rename_i te r gX hr;obtain⟨rfl,nW⟩:=aH hT fq;obtain⟨rfl,cQ⟩:=aH hT gX;have cX:=nW.kind;rw [hk]at cX;have hu:=bO cX;obtain⟨i,hi,fx,tA,z,hz,hc⟩:=cQ.info;have oM:z.cells.size=te.size:=by rw [←Array.length_toList,←hc ρ,bB,cQ.ze]
   split at h
   ·rename_i zc zi;split at h
    ·rename_i gY;obtain⟨hs,hw,He⟩:=gY;rw [aeY]at h;obtain⟨aZ,eB,rfl⟩:=h;simp only at bY cV;obtain⟨v1,v2⟩:=bD bY;have v2:=bq v2;simp only [E.den]at v2;obtain⟨_,z2,z3⟩:=fg (ρ:=ρ) zi;obtain⟨a,c,hx,w',s1,s2,s3,s4⟩:=I3 (P:=P) hr cV v1 He hw v2 v2 (Int.le_refl _) (z2.trans hs.symm) eB;refine⟨w',.inl ?_,s4⟩;rw [hx];cases a with
     | none=>
      rw [s3 rfl];simp [Builtin.clear_,run_underlying hu,SV.val,undef]
     | some ad=>
      by_cases h0:(r.p.len.den ρ 0).toNat=0
      ·rw [s2 h0,h0];simp [Builtin.clear_,run_underlying hu,SV.val,undef]
      ·obtain⟨N,hN⟩: ∃N,(r.p.len.den ρ 0).toNat=N+1:=⟨(r.p.len.den ρ 0).toNat - 1,by omega⟩;have uE:=s1 ad rfl;rw [←KM zi (hc ρ) oM,hN]at uE;rw [hN];obtain⟨z',OQ,_⟩:=cQ.zero w;have hzz:(zeroValue te.t).run P w= .ok z w:=by simp [zeroValue,typeInfo,hi,hz]
       simp [Builtin.clear_,run_underlying hu,hzz,uE,SV.val,undef]
    ·cases h
   ·cases h
  ·cases h
 ·cases h
theorem pT(a b:E):(wb a b).den ρ 0=min (a.den ρ 0) (b.den ρ 0):=by
 unfold wb;split
 ·rfl
 ·split
  ·rename_i h;subst h;simp
  ·simp only [E.den,ak];omega
theorem oo(ts ty e:TypeId)(i:TypeInfo)(ht:P.underlying ts=some (.slice e))(hi:P.info? e=some i)(a:Option Addr)(N C:Nat)(y:Value)(m:Nat)(news:List Value)
  (hy:World.vC w y m news) (hl:news.length=m*i.size) {w':World} (hs: ∀ad,a=some ad→(storeCells ad (news.take (Nat.min m N*i.size))).run P w= .ok () w') (hn:a=none→w'=w):
  (Builtin.copy_ #[ts,ts] ty #[.slice a N C,y]).run P w= .ok (goInt (Nat.min m N)) w':=by
 obtain⟨q1,q2⟩:=vD (P:=P) hy hl;have q2:=q2 (Nat.min m N) (Nat.min_le_left _ _);cases a with
 | none=>
  have:=hn rfl;subst this;simp [Builtin.copy_,run_underlying ht,sizeOf,typeInfo,hi,q1,q2]
 | some ad=>
  have:=hs ad rfl;simp [Builtin.copy_,run_underlying ht,sizeOf,typeInfo,hi,q1,q2,this]
theorem Rp(k:IntKind)(N i m:Nat)(f g h:Nat→Int)(hle:i+m≤N)(hh: ∀j,h j=if i≤j∧j<i+m then g (j - i)else f j):
  al k N h=(al k N f).take i++al k m g++(al k N f).drop (i+m):=by
 have e: ∀(n:Nat) (q:Nat→Int),al k n q=fT (fun j=>[.int k (q j)]) n:=by
  intro n q;unfold al fT
  induction n with
  | zero=>rfl
  | succ n ih=>rw [List.range_succ,List.flatMap_append,List.map_append,ih];simp
 have:=yI (f:=fun j=>[.int k (f j)]) (g:=fun j=>[.int k (g j)]) (h:=fun j=>[.int k (h j)]) (s:=1) (fun _=>rfl) N i m hle (fun j=>by rw [hh];split<;>rfl);rw [Nat.mul_one,Nat.mul_one]at this;rw [e,e,e];exact this
theorem zG(hT:bG P T=true){ts:TypeId}{tt:TI}(fq:a_ T ts=some tt){x y:SV}{res:hZ}(h:Cu T hp tt.k x y=some res)
  (cV:Reads hp ρ w S res.rd) (bY: ∀b∈res.vcs,b.prop ρ) (ty:TypeId):
  Did P ρ w hp S nb nv ((do pure (.value (←Builtin.copy_ #[ts,ts] ty #[x.val ρ,y.val ρ])):Sem Next).run P w) res:=by
 unfold Cu at h;split at h
 ·rename_i t hk;split at h
  ·rename_i te gX;obtain⟨rfl,nW⟩:=aH hT fq;obtain⟨rfl,cQ⟩:=aH hT gX;have cX:=nW.kind;rw [hk]at cX;have hu:=bO cX;obtain⟨i,hi,fx,tA,z,hz,hc⟩:=cQ.info;split at h
   ·rename_i sc iJ;split at h
    ·rename_i b ix s n cap;split at h
     ·rename_i j b' cs hf;obtain⟨hj,dC⟩:=cO hf;simp only [Ck.qv,beq_iff_eq]at dC;subst dC;split at h
      ·cases h
      ·rename_i DS;have hs:s=te.size:=by
        apply Classical.byContradiction;intro eZ;exact DS (.inl eZ)
       split at h
       ·rename_i k N a;split at h
        ·rename_i k' a' eB;split at h
         ·rename_i gY;obtain⟨j_,rfl⟩:=gY;cases h;simp only at bY cV;obtain⟨v1,v5⟩:=bD bY;obtain⟨v1,v4⟩:=bD v1;obtain⟨v1,v3⟩:=bD v1;obtain⟨v1,v2⟩:=bD v1;have v2:=bq v2;have v3:=bq v3;have v4:=bq v4;have v5:=bq v5;rw [bM]at v5;simp only [E.den]at v2 v3 v4 v5;obtain⟨_,s2,s3⟩:=fH (te:=te) iJ (fun j hj=>cV j (ae4 _ hj)) v1 v2;have hS:=cV j (by simp) _ hj;have hS:(ax (ρ.bv.getD b 0) true (al k N (a.den ρ))).p w (S j):=by
           simpa [Ck.den,SV.aC,SV.cells] using hS
          rw [eB]at s3;have DV:((wb sc.n n).den ρ 0).toNat=Nat.min (sc.n.den ρ 0).toNat (n.den ρ 0).toNat:=by
           rw [pT];simp only [Nat.min_def,Int.min_def];split<;>split<;>omega
          have Oi:Nat.min (sc.n.den ρ 0).toNat (n.den ρ 0).toNat≤(sc.n.den ρ 0).toNat:=Nat.min_le_left _ _;have W9:Nat.min (sc.n.den ρ 0).toNat (n.den ρ 0).toNat≤(n.den ρ 0).toNat:=Nat.min_le_right _ _;have CJ:(aM ρ (sc.n.den ρ 0).toNat [⟨.int k,1,a'⟩]).take (Nat.min (sc.n.den ρ 0).toNat (n.den ρ 0).toNat*i.size)=al k (Nat.min (sc.n.den ρ 0).toNat (n.den ρ 0).toNat) (a'.den ρ):=by
           rw [eo,fx,←hs,j_,Nat.mul_one];exact dX k _ _ _ Oi
          obtain⟨g1,g2⟩:=pY (P:=P) hS (ix.den ρ 0).toNat (vs:=al k (Nat.min (sc.n.den ρ 0).toNat (n.den ρ 0).toNat) (a'.den ρ)) (by rw [aG,aG];omega)
           (fun u hu=>by simp only [al,List.mem_map]at hu;obtain⟨_,_,rfl⟩:=hu;rfl)
          have iS:=oo (P:=P) tt.t ty te.t i hu hi (some ⟨ρ.bv.getD b 0,(ix.den ρ 0).toNat*s,none⟩) (n.den ρ 0).toNat (cap.den ρ 0).toNat _ _ _ s3 (by rw [eo,aG,fx,←hs,j_,Nat.mul_one])
           (fun ad pW=>by
            cases pW;rw [CJ,j_,Nat.mul_one];exact g1) (by simp)
          refine⟨w.setCells (ρ.bv.getD b 0) (ix.den ρ 0).toNat (al k (Nat.min (sc.n.den ρ 0).toNat (n.den ρ 0).toNat) (a'.den ρ)),.inl ?_,⟨⟨_,hj,rfl⟩,rfl,ij _ _ _ _,ig _ _ _ _,fun k hk=>gw _ _ _ _ _ (fun e=>hk ((hS.1 k).2 e)),?_⟩⟩
          ·have e1:(SV.sl b ix s n cap).val ρ= .slice (some ⟨ρ.bv.getD b 0,(ix.den ρ 0).toNat*s,none⟩) (n.den ρ 0).toNat (cap.den ρ 0).toNat:=rfl;rw [e1];simp only [afa,iS,ae3,afs,SV.val,goInt];congr 3;have:0≤(wb sc.n n).den ρ 0:=by rw [pT];omega
           omega
          ·rw [aG]at g2;have:=Rp k N (ix.den ρ 0).toNat (Nat.min (sc.n.den ρ 0).toNat (n.den ρ 0).toNat) (a.den ρ) (a'.den ρ) ((E.tw a ix (wb sc.n n) a').den ρ) (by omega) (fun j=>by simp only [E.den,DV]);simp only [Ck.den,SV.aC,SV.cells,List.append_nil];rw [this];exact g2
         ·cases h
        ·cases h
       ·split at h
        ·rename_i i0 n0 m0 k' a' La US JU eB;split at h
         ·rename_i j_;rw [aeY]at h;obtain⟨uM,pg,rfl⟩:=h;simp only at bY cV;have di:=cy (ρ:=ρ) La;have dn:=cy (ρ:=ρ) US;have dm:=cy (ρ:=ρ) JU;obtain⟨_,s2,s3⟩:=fH (te:=te) iJ (fun j hj=>cV j (ae4 _ hj)) bY (by omega);have hS:=cV j (by simp) _ hj;rw [eB,dm,afe]at s3;obtain⟨p1,p2⟩:=nM ρ pg;have dH:SV.aC ρ [SV.cE k' (min m0 n0) a']=al k' (min m0 n0) (a'.den ρ):=by simp [SV.aC,SV.cells]
          rw [dH]at p1 p2;obtain⟨g1,g2⟩:=pY (P:=P) hS i0 p2 (fun u hu=>by simp only [al,List.mem_map]at hu;obtain⟨_,_,rfl⟩:=hu;rfl);have CJ:(aM ρ m0 [⟨.int k',1,a'⟩]).take (Nat.min m0 n0*i.size)=al k' (min m0 n0) (a'.den ρ):=by
           rw [eo,fx,←hs,j_,Nat.mul_one];exact dX k' _ _ _ (Nat.min_le_left _ _)
          have iS:=oo (P:=P) tt.t ty te.t i hu hi (some ⟨ρ.bv.getD b 0,i0,none⟩) n0 (cap.den ρ 0).toNat _ _ _ s3 (by rw [eo,aG,fx,←hs,j_,Nat.mul_one])
           (fun ad pW=>by
            cases pW;rw [CJ];exact g1) (by simp)
          refine⟨w.setCells (ρ.bv.getD b 0) i0 (al k' (min m0 n0) (a'.den ρ)),.inl ?_,⟨⟨_,hj,rfl⟩,rfl,ij _ _ _ _,ig _ _ _ _,fun k hk=>gw _ _ _ _ _ (fun e=>hk ((hS.1 k).2 e)),?_⟩⟩
          ·have e1:(SV.sl b ix s n cap).val ρ= .slice (some ⟨ρ.bv.getD b 0,i0,none⟩) n0 (cap.den ρ 0).toNat:=by simp [SV.val,di,dn,j_]
           rw [e1];simp only [afa,iS,ae3,afs,SV.val,goInt,E.den]
          ·simp only [Ck.den,p1];exact g2
         ·cases h
        ·cases h
     ·cases h
    ·split at h
     ·rename_i r hr;split at h
      ·rename_i gY;obtain⟨ht,hs,hw,He,qx⟩:=gY;rw [aeY]at h;obtain⟨aZ,eB,rfl⟩:=h;simp only at bY cV;obtain⟨v1,v4⟩:=bD bY;obtain⟨v1,v3⟩:=bD v1;obtain⟨v1,v2⟩:=bD v1;have v3:=bq v3;have v4:=bq v4;simp only [E.den]at v3 v4;have Ut:Reads hp ρ w S [r.j]:=fun j hj=>cV j (by simp at hj;simp [hj])
       obtain⟨_,s2,s3⟩:=fH (te:=te) iJ (fun j hj=>cV j (ae4 _ hj)) v2 v4;have JU:0≤(wb sc.n r.p.len).den ρ 0:=by rw [pT];omega
       have ZM:(wb sc.n r.p.len).den ρ 0≤r.p.len.den ρ 0:=by rw [pT];omega
       have DV:((wb sc.n r.p.len).den ρ 0).toNat=Nat.min (sc.n.den ρ 0).toNat (r.p.len.den ρ 0).toNat:=by
        rw [pT];simp only [Nat.min_def,Int.min_def];split<;>split<;>omega
       obtain⟨a,c,hx,w',q1,q2,q3,q4⟩:=I3 (P:=P) hr Ut v1 He hw v3 JU ZM (s2.trans hs.symm) eB;refine⟨w',.inl ?_,by rw [←ht];exact q4⟩;have iS:=oo (P:=P) tt.t ty te.t i hu hi a (r.p.len.den ρ 0).toNat c _ _ _ s3 (by rw [dj,s2,fx]) (fun ad pW=>by
        have:=q1 ad pW;have hct:=pR (ρ:=ρ) (sc.n.den ρ 0).toNat (Nat.min (sc.n.den ρ 0).toNat (r.p.len.den ρ 0).toNat) sc.aF (Nat.min_le_left _ _);rw [s2]at hct;rw [fx,hct,←DV];exact this) q3
       rw [hx];simp only [afa,iS,ae3,afs,SV.val,goInt];congr 3;omega
      ·cases h
     ·cases h
   ·cases h
  ·cases h
 ·cases h
end
end Go.RX
