/- Executor. -/
import Derived.Test.YtllcdnkfbeokhaaGreatRxOd
open Bool renaming and_eq_true → ai
open Go.Builtin renaming zeroCells → auT
open Go.Result renaming andThen_ok → aut
open Go.Sem renaming run_bind → auC, run_pure → auI
open Int renaming toNat → ag, toNat_natCast → auD
open List renaming eq_nil_of_length_eq_zero → auH, map_cons → auK, mem_cons_of_mem → auw, mem_map → auL
open Nat renaming min → auZ
open Option renaming getD_some → au8, map_eq_some_iff → aus
open Option.some renaming injEq → auq
namespace Go.RX
section
variable {P:Program} {ρ:Env} {w:World} {look:Nat→Option SV} {bH:Operand→Value} {hp:List Ck} {S:Nat→Nat→Prop} {nb nv:Nat} {T:List TI}
theorem iu: ∀{l:List SV} {aA:List bP},kP l aA=true→∀i:Nat,rowAt ρ aA i=SV.ao ρ l
 | [],[],_,_=>rfl
 | [],_::_,h,_=>by simp [kP]at h
 | v::r,[],h,_=>by cases v<;>simp [kP]at h
 | v::r,c::aA,h,i=>by
  unfold kP at h;split at h
  ·rename_i h1 _;cases h1
  ·rename_i k r' k' w aS h1 h2;cases h1;cases h2;simp only [ai,beq_iff_eq]at h;obtain⟨⟨rfl,rfl⟩,h⟩:=h;have:=iu h i;simp only [rowAt,auK,List.flatMap_cons,SV.ao,SV.cells]at this ⊢;rw [this];simp [bP.cells,ay,aj,E.den]
  ·rename_i r' w aS h1 h2;cases h1;cases h2;simp only [ai,beq_iff_eq]at h;obtain⟨rfl,h⟩:=h;have:=iu h i;simp only [rowAt,auK,List.flatMap_cons,SV.ao,SV.cells]at this ⊢;rw [this];simp [bP.cells,cY,E.den,BE.den]
  ·rename_i k n r' k' w aS h1 h2;cases h1;cases h2;simp only [ai,beq_iff_eq]at h;obtain⟨⟨rfl,rfl⟩,h⟩:=h;have:=iu h i;simp only [rowAt,auK,List.flatMap_cons,SV.ao,SV.cells]at this ⊢;rw [this];simp only [bP.cells,ay];congr 1
  ·rename_i r' w aS h1 h2;cases h1;cases h2;simp only [ai,beq_iff_eq]at h;obtain⟨rfl,h⟩:=h;have:=iu h i;simp only [rowAt,auK,List.flatMap_cons,SV.ao,SV.cells]at this ⊢;rw [this];simp [bP.cells,vg,E.den,cN]
  ·rename_i r' w a' aS h1 h2;cases h1;cases h2;simp only [ai,beq_iff_eq]at h;obtain⟨rfl,h⟩:=h;have:=iu h i;simp only [rowAt,auK,List.flatMap_cons,SV.ao,SV.cells]at this ⊢;rw [this];simp [bP.cells,eA]
  ·rename_i r' w aS h1 h2;cases h1;cases h2;simp only [ai,beq_iff_eq]at h;obtain⟨rfl,h⟩:=h;have:=iu h i;simp only [rowAt,auK,List.flatMap_cons,SV.ao,SV.cells]at this ⊢;rw [this];simp [bP.cells,eA,E.den,qW,dC]
  ·cases h
theorem gE{te:TI}{z:List bP}(h:jm T te=some z):(∀i:Nat,rowAt ρ z i=SV.ao ρ te.zero)∧b_ z=te.size∧0<te.size:=by
 unfold jm at h;split at h
 ·split at h
  ·rename_i hc;cases h;simp only [ai,beq_iff_eq,Bool.not_eq_true',beq_eq_false_iff_ne]at hc;exact⟨fun i=>iu hc.1.1 i,hc.1.2,by omega⟩
  ·cases h
 ·cases h
theorem vu{te:TI}{z:List bP}(h:jm T te=some z)(n:Nat):aG ρ n z=(List.replicate n (SV.ao ρ te.zero)).flatten:=by
 rw [cT,dr fun i _=>(gE h).1 i];unfold iJ
 induction n with
 | zero=>rfl
 | succ n ih=>rw [List.range_succ,List.flatMap_append,ih,List.replicate_succ',List.flatten_append];simp
theorem CD(hT:bB P T=true){ts:TypeId}{tt:TI}(gD:aU T ts=some tt){n c:E}{res:iC}(h:EZ T nv tt.k n c=some res)(cd: ∀b∈res.vcs,b.prop ρ)
  (k k':IntKind):
  Did P ρ w hp S nb nv ((do pure (.value (←Instr.makeSlice ts (.int k (n.den ρ 0)) (.int k' (c.den ρ 0)))):Sem Next).run P w) res:=by
 unfold EZ at h;split at h
 ·rename_i t hk;split at h
  ·rename_i te jf;obtain⟨rfl,qg⟩:=aC hT gD;obtain⟨rfl,dc⟩:=aC hT jf;have dE:=qg.kind;rw [hk]at dE;have hu:=bK dE;obtain⟨i,hi,gx,wG,z,hz,hc⟩:=dc.info;have qJ:z.cells.size=te.size:=by rw [←Array.length_toList,←hc ρ,bu,dc.Cf]
   split at h
   ·rename_i zc Ab;cases h;simp only at cd;obtain⟨v1,v3⟩:=bA cd;obtain⟨v1,v2⟩:=bA v1;have v1:=bf v1;have v2:=bf v2;simp only [E.den]at v1;obtain⟨b1,b2⟩:=ji (n:=c) (bytes:=te.bytes) (v3 _ (by simp)) (by omega);obtain⟨z1,z2,z3⟩:=gE (ρ:=ρ) Ab;have Ih:(i.bytes:Int)*c.den ρ 0≤281474976710656:=by
     have:((i.bytes*(c.den ρ 0).toNat:Nat):Int)≤281474976710656:=by rw [wG,Nat.mul_comm];omega
     rw [Int.natCast_mul,Int.toNat_of_nonneg (by omega)]at this;exact this
    have hr:=run_make (P:=P) w tt.t te.t i z hu hi hz k k' (n.den ρ 0) (c.den ρ 0) v1 v2 Ih (by omega);have gU:(madeCells z.cells ((c.den ρ 0).toNat*i.size)).toList=aG ρ (c.den ρ 0).toNat zc:=by
     rw [vu Ab,hc ρ,gx,←qJ];unfold madeCells;exact vo _ _ (by omega)
    refine⟨te.t,te.size,n,zc,.slice (some ⟨w.heap.size,0,none⟩) (n.den ρ 0).toNat (c.den ρ 0).toNat,w.alloc (.cells (madeCells z.cells ((c.den ρ 0).toNat*i.size)) te.t),fun k=>k=w.heap.size,rfl,rfl,by simp only [auC,hr,aut,auI],rfl,⟨rfl,rfl,rfl,by simp⟩,fun k hk=>heap_alloc_old w _ hk,⟨?_,?_⟩,?_⟩
    ·simp only [if_true];refine⟨by rw [eh,z2],.inr ⟨w.heap.size,0,_,_,rfl,⟨_,_,heap_alloc_new w _,.zero _⟩,by omega,by unfold maxLen;omega,fun _=>?_,?_⟩⟩
     ·rw [size_madeCells,gx,Nat.zero_add];exact Nat.le_refl _
     ·rw [gU,←z2,List.drop_zero,sy _ _ _ (by omega)]
    ·intro k;simp only [Value.ownBlock,auq];exact⟨fun h=>⟨h.symm,.inl trivial⟩,fun h=>h.1.symm⟩
    ·rintro k rfl;simp
   ·cases h
  ·cases h
 ·cases h
theorem BM(hT:bB P T=true){ti te:TI}{t:TypeId}(ht:aU T t=some ti){e:Nat}(hk:ti.k= .slice e)(jf:aU T e=some te){zc:List bP}(_:jm T te=some zc):
  Did P ρ w hp S nb nv ((do pure (.value (←Instr.buildSlice t 0 #[])):Sem Next).run P w) {val:= .vv nv,iD:= .own (.cC true nv e te.size (.lit 0) zc)}:=by
 obtain⟨rfl,dc⟩:=aC hT ht;obtain⟨rfl,MF⟩:=aC hT jf;have dE:=dc.kind;rw [hk]at dE;have hu:=bK dE;have hr:(Instr.buildSlice ti.t 0 #[]).run P w= .ok (.slice (some ⟨w.heap.size,0,none⟩) 0 0) (w.alloc (.cells #[] te.t)):=by
  simp [Instr.buildSlice,run_underlying hu,MF.sizeOf w,Instr.fill,newRow,Array.range_zero']
 refine⟨te.t,te.size,.lit 0,zc,.slice (some ⟨w.heap.size,0,none⟩) 0 0,w.alloc (.cells #[] te.t),fun k=>k=w.heap.size,rfl,rfl,by simp only [auC,hr,aut,auI],rfl,⟨rfl,rfl,rfl,by simp⟩,fun k hk=>heap_alloc_old w _ hk,⟨?_,?_⟩,?_⟩
 ·simp only [if_true];refine⟨by simp [E.den,aG,aM],.inr ⟨w.heap.size,0,0,#[],rfl,⟨_,_,heap_alloc_new w _,.zero _⟩,Nat.le_refl _,Nat.zero_le _,by simp,by simp [E.den,aG,aM]⟩⟩
 ·intro k;simp only [Value.ownBlock,auq];exact⟨fun h=>⟨h.symm,.inl trivial⟩,fun h=>h.1.symm⟩
 ·rintro k rfl;simp
theorem LW{x:SV}{r:Rt}(hr:ic hp x=some r)(db:Reads hp ρ w S [r.j])(hv: ∀b∈r.vcs,b.prop ρ)(Kd:r.md=true)(hw:r.s=b_ r.aA)(hl:0≤r.p.len.den ρ 0)
  {m:E} (hm:0≤m.den ρ 0) (hle:m.den ρ 0≤r.p.len.den ρ 0) {sc aS:List bP} (hs:b_ sc=r.s) (fu:jc r.p.lo m r.aA sc=some aS):
  ∃a c,x.val ρ= .slice a (r.p.len.den ρ 0).toNat c∧∃w',(∀ad,a=some ad→(storeCells ad (aG ρ (m.den ρ 0).toNat sc)).run P w= .ok () w')∧((m.den ρ 0).toNat=0→w'=w)∧(a=none→w'=w)∧
   CS P w ρ hp S r.j (.cC true r.v r.t r.s r.n aS) w':=by
 obtain⟨hj,fi⟩:=gf hr db hv;have hS:=db r.j (by simp) _ hj;have hS:(aB true r.t r.s (ρ.vv.getD r.v V1.nil).v (r.n.den ρ 0).toNat (aG ρ (r.n.den ρ 0).toNat r.aA)).p w (S r.j):=by
  rw [Kd]at hS;exact hS
 obtain⟨h1,h2,h3,a,c,k,hv0,hc,hx,hk⟩:=fi;obtain⟨c1,c2,c3⟩:=ij (ρ:=ρ) h1 hm fu;have P8:=BK (f:=rowAt ρ r.aA) (g:=rowAt ρ sc) (h:=rowAt ρ aS) (s:=r.s) (fun i=>by rw [dQ];exact hw.symm) (r.n.den ρ 0).toNat (r.p.lo.den ρ 0).toNat (m.den ρ 0).toNat (by omega) c3;have uP:(aG ρ (m.den ρ 0).toNat sc).length=(m.den ρ 0).toNat*r.s:=by rw [eh,hs]
 have abC:(r.p.lo.den ρ 0).toNat*r.s+(aG ρ (m.den ρ 0).toNat sc).length≤(aG ρ (r.n.den ρ 0).toNat r.aA).length:=by
  rw [uP,eh,←hw,←Nat.add_mul];exact Nat.mul_le_mul_right _ (by omega)
 have HO:a=none→(m.den ρ 0).toNat=0:=by
  rintro rfl;obtain⟨_,_,he,kI,_⟩:=(E3 hS).1;rw [hv0]at he;cases he;have:=kI rfl;omega
 obtain⟨w',g1,g2,g3,g4,g5,g6⟩:=Dv (P:=P) hS ((r.p.lo.den ρ 0).toNat*r.s) abC (qh _ _) ((a.getD ⟨0,0,none⟩).add ((r.p.lo.den ρ 0).toNat*r.s)) (fun LV=>by
  rw [hv0];cases a with
  | none=>
   have:=HO rfl;rw [uP,this,Nat.zero_mul]at LV;omega
  | some a=>rfl)
 have hz:(m.den ρ 0).toNat=0→aG ρ (m.den ρ 0).toNat sc=[]:=fun h=>auH (by rw [uP,h,Nat.zero_mul])
 refine⟨_,_,hx,w',?_,fun h=>g6 (hz h),fun h=>?_,⟨⟨_,hj,by rw [Kd];rfl⟩,rfl,g2,g3,g4,?_⟩⟩
 ·intro ad had;by_cases h0:(m.den ρ 0).toNat=0
  ·rw [hz h0]at g6 ⊢;rw [g6 rfl];rfl
  ·cases a with
   | none=>simp at had
   | some a0=>
    simp only [Option.map_some,auq]at had;subst had;have MJ:(r.p.lo.den ρ 0).toNat<((r.p.mx.map fun m=>m.den ρ 0).map ag).getD c:=by
     cases hmx:(r.p.mx.map fun m=>m.den ρ 0)with
     | none=>simp only [Option.map_none,Option.getD_none];omega
     | some q=>have:=h3 q hmx;simp only [Option.map_some,au8];omega
    rw [hk (.inl MJ)];exact g1
 ·cases a with
  | some a=>simp at h
  | none=>exact g6 (hz (HO rfl))
 ·simp only [Ck.den];rw [cT,P8];rw [uP]at g5;exact g5
theorem OL{te:TI}{z:Value}{zc:List bP}(Ab:jm T te=some zc)(hc:SV.ao ρ te.zero=z.cells.toList)(qJ:z.cells.size=te.size)(n:Nat):
  (auT z.cells n).toList=aG ρ n zc:=by
 obtain⟨z1,z2,z3⟩:=gE (ρ:=ρ) Ab;rw [vu Ab,hc];unfold auT;exact vo _ _ (by omega)
theorem BN(hT:bB P T=true){ts:TypeId}{tt:TI}(gD:aU T ts=some tt){x:SV}{res:iC}(h:Bw T hp tt.k x=some res)
  (db:Reads hp ρ w S res.rd) (cd: ∀b∈res.vcs,b.prop ρ) (ty:TypeId):
  Did P ρ w hp S nb nv ((do pure (.value (←Builtin.clear_ #[ts] ty #[x.val ρ])):Sem Next).run P w) res:=by
 unfold Bw at h;split at h
 ·rename_i e hk;cases h;obtain⟨rfl,qg⟩:=aC hT gD;have dE:=qg.kind;rw [hk]at dE;have hu:=bK dE;show(Sem.run P _ w)= .ok (Next.value (SV.undef.val ρ)) w;simp [Builtin.clear_,run_underlying hu,SV.val,undef]
 ·rename_i e hk _;split at h
  ·rename_i te r jf hr;obtain⟨rfl,qg⟩:=aC hT gD;obtain⟨rfl,dc⟩:=aC hT jf;have dE:=qg.kind;rw [hk]at dE;have hu:=bK dE;obtain⟨i,hi,gx,wG,z,hz,hc⟩:=dc.info;have qJ:z.cells.size=te.size:=by rw [←Array.length_toList,←hc ρ,bu,dc.Cf]
   split at h
   ·rename_i zc Ab;split at h
    ·rename_i gJ;obtain⟨hs,hw,Kd⟩:=gJ;rw [aus]at h;obtain⟨aS,fu,rfl⟩:=h;simp only at cd db;obtain⟨v1,v2⟩:=bA cd;have v2:=bf v2;simp only [E.den]at v2;obtain⟨_,z2,z3⟩:=gE (ρ:=ρ) Ab;obtain⟨a,c,hx,w',s1,s2,s3,s4⟩:=LW (P:=P) hr db v1 Kd hw v2 v2 (Int.le_refl _) (z2.trans hs.symm) fu;refine⟨w',.inl ?_,s4⟩;rw [hx];cases a with
     | none=>
      rw [s3 rfl];simp [Builtin.clear_,run_underlying hu,SV.val,undef]
     | some ad=>
      by_cases h0:(r.p.len.den ρ 0).toNat=0
      ·rw [s2 h0,h0];simp [Builtin.clear_,run_underlying hu,SV.val,undef]
      ·obtain⟨N,hN⟩: ∃N,(r.p.len.den ρ 0).toNat=N+1:=⟨(r.p.len.den ρ 0).toNat - 1,by omega⟩;have qH:=s1 ad rfl;rw [←OL Ab (hc ρ) qJ,hN]at qH;rw [hN];obtain⟨z',ID,_⟩:=dc.zero w;have hzz:(zeroValue te.t).run P w= .ok z w:=by simp [zeroValue,typeInfo,hi,hz]
       simp [Builtin.clear_,run_underlying hu,hzz,qH,SV.val,undef]
    ·cases h
   ·cases h
  ·cases h
 ·cases h
theorem nQ(a b:E):(qD a b).den ρ 0=min (a.den ρ 0) (b.den ρ 0):=by
 unfold qD;split
 ·rfl
 ·split
  ·rename_i h;subst h;simp
  ·simp only [E.den,ar];omega
theorem m6(ts ty e:TypeId)(i:TypeInfo)(ht:P.underlying ts=some (.slice e))(hi:P.info? e=some i)(a:Option Addr)(N C:Nat)(y:Value)(m:Nat)(news:List Value)
  (hy:World.yC w y m news) (hl:news.length=m*i.size) {w':World} (hs: ∀ad,a=some ad→(storeCells ad (news.take (auZ m N*i.size))).run P w= .ok () w') (hn:a=none→w'=w):
  (Builtin.copy_ #[ts,ts] ty #[.slice a N C,y]).run P w= .ok (goInt (auZ m N)) w':=by
 obtain⟨q1,q2⟩:=yD (P:=P) hy hl;have q2:=q2 (auZ m N) (Nat.min_le_left _ _);cases a with
 | none=>
  have:=hn rfl;subst this;simp [Builtin.copy_,run_underlying ht,sizeOf,typeInfo,hi,q1,q2]
 | some ad=>
  have:=hs ad rfl;simp [Builtin.copy_,run_underlying ht,sizeOf,typeInfo,hi,q1,q2,this]
theorem LX(k:IntKind)(N i m:Nat)(f g h:Nat→Int)(hle:i+m≤N)(hh: ∀j,h j=if i≤j∧j<i+m then g (j - i)else f j):
  aj k N h=(aj k N f).take i++aj k m g++(aj k N f).drop (i+m):=by
 have e: ∀(n:Nat) (q:Nat→Int),aj k n q=iJ (fun j=>[.int k (q j)]) n:=by
  intro n q;unfold aj iJ
  induction n with
  | zero=>rfl
  | succ n ih=>rw [List.range_succ,List.flatMap_append,List.map_append,ih];simp
 have:=BK (f:=fun j=>[.int k (f j)]) (g:=fun j=>[.int k (g j)]) (h:=fun j=>[.int k (h j)]) (s:=1) (fun _=>rfl) N i m hle (fun j=>by rw [hh];split<;>rfl);rw [Nat.mul_one,Nat.mul_one]at this;rw [e,e,e];exact this
theorem CE(hT:bB P T=true){ts:TypeId}{tt:TI}(gD:aU T ts=some tt){x y:SV}{res:iC}(h:EY T hp tt.k x y=some res)
  (db:Reads hp ρ w S res.rd) (cd: ∀b∈res.vcs,b.prop ρ) (ty:TypeId):
  Did P ρ w hp S nb nv ((do pure (.value (←Builtin.copy_ #[ts,ts] ty #[x.val ρ,y.val ρ])):Sem Next).run P w) res:=by
 unfold EY at h;split at h
 ·rename_i t hk;split at h
  ·rename_i te jf;obtain⟨rfl,qg⟩:=aC hT gD;obtain⟨rfl,dc⟩:=aC hT jf;have dE:=qg.kind;rw [hk]at dE;have hu:=bK dE;obtain⟨i,hi,gx,wG,z,hz,hc⟩:=dc.info;split at h
   ·rename_i sc jM;split at h
    ·rename_i b ix s n cap;split at h
     ·rename_i j b' cs hf;obtain⟨hj,dH⟩:=dD hf;simp only [Ck.s5,beq_iff_eq]at dH;subst dH;split at h
      ·cases h
      ·rename_i yS;have hs:s=te.size:=by
        apply Classical.byContradiction;intro fy;exact yS (.inl fy)
       split at h
       ·rename_i k N a;split at h
        ·rename_i k' a' fu;split at h
         ·rename_i gJ;obtain⟨kZ,rfl⟩:=gJ;cases h;simp only at cd db;obtain⟨v1,v5⟩:=bA cd;obtain⟨v1,v4⟩:=bA v1;obtain⟨v1,v3⟩:=bA v1;obtain⟨v1,v2⟩:=bA v1;have v2:=bf v2;have v3:=bf v3;have v4:=bf v4;have v5:=bf v5;rw [bG]at v5;simp only [E.den]at v2 v3 v4 v5;obtain⟨_,s2,s3⟩:=gG (te:=te) jM (fun j hj=>db j (auw _ hj)) v1 v2;have hS:=db j (by simp) _ hj;have hS:(ak (ρ.bv.getD b 0) true (aj k N (a.den ρ))).p w (S j):=by
           simpa [Ck.den,SV.ao,SV.cells] using hS
          rw [fu]at s3;have zb:((qD sc.n n).den ρ 0).toNat=auZ (sc.n.den ρ 0).toNat (n.den ρ 0).toNat:=by
           rw [nQ];simp only [Nat.min_def,Int.min_def];split<;>split<;>omega
          have Ke:auZ (sc.n.den ρ 0).toNat (n.den ρ 0).toNat≤(sc.n.den ρ 0).toNat:=Nat.min_le_left _ _;have Jf:auZ (sc.n.den ρ 0).toNat (n.den ρ 0).toNat≤(n.den ρ 0).toNat:=Nat.min_le_right _ _;have CO:(aG ρ (sc.n.den ρ 0).toNat [⟨.int k,1,a'⟩]).take (auZ (sc.n.den ρ 0).toNat (n.den ρ 0).toNat*i.size)=aj k (auZ (sc.n.den ρ 0).toNat (n.den ρ 0).toNat) (a'.den ρ):=by
           rw [ei,gx,←hs,kZ,Nat.mul_one];exact gw k _ _ _ Ke
          obtain⟨g1,g2⟩:=pw (P:=P) hS (ix.den ρ 0).toNat (vs:=aj k (auZ (sc.n.den ρ 0).toNat (n.den ρ 0).toNat) (a'.den ρ)) (by rw [aE,aE];omega)
           (fun u hu=>by simp only [aj,auL]at hu;obtain⟨_,_,rfl⟩:=hu;rfl)
          have iR:=m6 (P:=P) tt.t ty te.t i hu hi (some ⟨ρ.bv.getD b 0,(ix.den ρ 0).toNat*s,none⟩) (n.den ρ 0).toNat (cap.den ρ 0).toNat _ _ _ s3 (by rw [ei,aE,gx,←hs,kZ,Nat.mul_one])
           (fun ad had=>by
            cases had;rw [CO,kZ,Nat.mul_one];exact g1) (by simp)
          refine⟨w.setCells (ρ.bv.getD b 0) (ix.den ρ 0).toNat (aj k (auZ (sc.n.den ρ 0).toNat (n.den ρ 0).toNat) (a'.den ρ)),.inl ?_,⟨⟨_,hj,rfl⟩,rfl,iM _ _ _ _,iL _ _ _ _,fun k hk=>gT _ _ _ _ _ (fun e=>hk ((hS.1 k).2 e)),?_⟩⟩
          ·have e1:(SV.sl b ix s n cap).val ρ= .slice (some ⟨ρ.bv.getD b 0,(ix.den ρ 0).toNat*s,none⟩) (n.den ρ 0).toNat (cap.den ρ 0).toNat:=rfl;rw [e1];simp only [auC,iR,aut,auI,SV.val,goInt];congr 3;have:0≤(qD sc.n n).den ρ 0:=by rw [nQ];omega
           omega
          ·rw [aE]at g2;have:=LX k N (ix.den ρ 0).toNat (auZ (sc.n.den ρ 0).toNat (n.den ρ 0).toNat) (a.den ρ) (a'.den ρ) ((E.jI a ix (qD sc.n n) a').den ρ) (by omega) (fun j=>by simp only [E.den,zb]);simp only [Ck.den,SV.ao,SV.cells,List.append_nil];rw [this];exact g2
         ·cases h
        ·cases h
       ·split at h
        ·rename_i i0 n0 m0 k' a' OY Da IN fu;split at h
         ·rename_i kZ;rw [aus]at h;obtain⟨ra,lY,rfl⟩:=h;simp only at cd db;have di:=bZ (ρ:=ρ) OY;have dn:=bZ (ρ:=ρ) Da;have dm:=bZ (ρ:=ρ) IN;obtain⟨_,s2,s3⟩:=gG (te:=te) jM (fun j hj=>db j (auw _ hj)) cd (by omega);have hS:=db j (by simp) _ hj;rw [fu,dm,auD]at s3;obtain⟨p1,p2⟩:=mL ρ lY;have eV:SV.ao ρ [SV.dg k' (min m0 n0) a']=aj k' (min m0 n0) (a'.den ρ):=by simp [SV.ao,SV.cells]
          rw [eV]at p1 p2;obtain⟨g1,g2⟩:=pw (P:=P) hS i0 p2 (fun u hu=>by simp only [aj,auL]at hu;obtain⟨_,_,rfl⟩:=hu;rfl);have CO:(aG ρ m0 [⟨.int k',1,a'⟩]).take (auZ m0 n0*i.size)=aj k' (min m0 n0) (a'.den ρ):=by
           rw [ei,gx,←hs,kZ,Nat.mul_one];exact gw k' _ _ _ (Nat.min_le_left _ _)
          have iR:=m6 (P:=P) tt.t ty te.t i hu hi (some ⟨ρ.bv.getD b 0,i0,none⟩) n0 (cap.den ρ 0).toNat _ _ _ s3 (by rw [ei,aE,gx,←hs,kZ,Nat.mul_one])
           (fun ad had=>by
            cases had;rw [CO];exact g1) (by simp)
          refine⟨w.setCells (ρ.bv.getD b 0) i0 (aj k' (min m0 n0) (a'.den ρ)),.inl ?_,⟨⟨_,hj,rfl⟩,rfl,iM _ _ _ _,iL _ _ _ _,fun k hk=>gT _ _ _ _ _ (fun e=>hk ((hS.1 k).2 e)),?_⟩⟩
          ·have e1:(SV.sl b ix s n cap).val ρ= .slice (some ⟨ρ.bv.getD b 0,i0,none⟩) n0 (cap.den ρ 0).toNat:=by simp [SV.val,di,dn,kZ]
           rw [e1];simp only [auC,iR,aut,auI,SV.val,goInt,E.den]
          ·simp only [Ck.den,p1];exact g2
         ·cases h
        ·rename_i i0 n0 k' a' OY Da IN fu;split at h
         ·rename_i k2 N2 a IF;split at h
          ·rename_i gJ;obtain⟨kZ,rfl,rfl⟩:=gJ;rw [aus]at h;obtain⟨ra,lY,rfl⟩:=h;simp only at cd db;obtain⟨v1,v2⟩:=bA cd;have v2:=bf v2;simp only [E.den]at v2;have di:=bZ (ρ:=ρ) OY;have dn:=bZ (ρ:=ρ) Da;obtain⟨_,s2,s3⟩:=gG (te:=te) jM (fun j hj=>db j (auw _ hj)) v1 v2;have hS:=db j (by simp) _ hj;rw [fu]at s3;have zb:((qD sc.n (.lit N2)).den ρ 0).toNat=auZ (sc.n.den ρ 0).toNat N2:=by
            rw [nQ];simp only [E.den,Nat.min_def,Int.min_def];split<;>split<;>omega
           have Ke:auZ (sc.n.den ρ 0).toNat N2≤(sc.n.den ρ 0).toNat:=Nat.min_le_left _ _;have Jf:auZ (sc.n.den ρ 0).toNat N2≤N2:=Nat.min_le_right _ _;obtain⟨p1,p2⟩:=mL ρ lY;obtain⟨c1,c2⟩:=fj ρ IF;have c1:aj k2 N2 (a.den ρ)=((SV.ao ρ cs).drop i0).take N2:=by rw [←c1];simp [SV.ao,SV.cells]
           obtain⟨g1,g2⟩:=pw (P:=P) hS i0 (vs:=aj k2 (auZ (sc.n.den ρ 0).toNat N2) (a'.den ρ)) (by rw [aE];omega) (fun u hu=>by simp only [aj,auL]at hu;obtain⟨_,_,rfl⟩:=hu;rfl);have CO:(aG ρ (sc.n.den ρ 0).toNat [⟨.int k2,1,a'⟩]).take (auZ (sc.n.den ρ 0).toNat N2*i.size)=aj k2 (auZ (sc.n.den ρ 0).toNat N2) (a'.den ρ):=by
            rw [ei,gx,←hs,kZ,Nat.mul_one];exact gw k2 _ _ _ Ke
           have iR:=m6 (P:=P) tt.t ty te.t i hu hi (some ⟨ρ.bv.getD b 0,i0,none⟩) N2 (cap.den ρ 0).toNat _ _ _ s3 (by rw [ei,aE,gx,←hs,kZ,Nat.mul_one])
            (fun ad had=>by
             cases had;rw [CO];exact g1) (by simp)
           refine⟨w.setCells (ρ.bv.getD b 0) i0 (aj k2 (auZ (sc.n.den ρ 0).toNat N2) (a'.den ρ)),.inl ?_,⟨⟨_,hj,rfl⟩,rfl,iM _ _ _ _,iL _ _ _ _,fun k hk=>gT _ _ _ _ _ (fun e=>hk ((hS.1 k).2 e)),?_⟩⟩
           ·have e1:(SV.sl b ix s n cap).val ρ= .slice (some ⟨ρ.bv.getD b 0,i0,none⟩) N2 (cap.den ρ 0).toNat:=by simp [SV.val,di,dn,kZ]
            rw [e1];simp only [auC,iR,aut,auI,SV.val,goInt];congr 3;have:0≤(qD sc.n (.lit N2)).den ρ 0:=by rw [nQ];simp only [E.den];omega
            omega
           ·have N4:=LX k2 N2 0 (auZ (sc.n.den ρ 0).toNat N2) (a.den ρ) (a'.den ρ) ((E.jI a (.lit 0) (qD sc.n (.lit N2)) a').den ρ) (by omega) (fun j=>by simp only [E.den,zb];rfl);have eV:SV.ao ρ [SV.dg k2 N2 (E.jI a (.lit 0) (qD sc.n (.lit N2)) a')]=aj k2 N2 ((E.jI a (.lit 0) (qD sc.n (.lit N2)) a').den ρ):=by simp [SV.ao,SV.cells]
            rw [eV,aE]at p1;simp only [Ck.den,p1,N4,List.take_zero,List.nil_append,Nat.zero_add,c1];rw [aE]at g2;have he:((SV.ao ρ cs).drop i0).take N2 |>.drop (auZ (sc.n.den ρ 0).toNat N2) |>.append ((SV.ao ρ cs).drop (i0+N2)) |> (· =(SV.ao ρ cs).drop (i0+auZ (sc.n.den ρ 0).toNat N2)):=by
             show List.drop _ (List.take N2 (List.drop i0 _))++List.drop (i0+N2) _=_;rw [←List.drop_drop,←List.drop_drop,List.drop_take];generalize (SV.ao ρ cs).drop i0=l;generalize auZ (sc.n.den ρ 0).toNat N2=m at Jf;have:l.drop N2=(l.drop m).drop (N2 - m):=by rw [List.drop_drop,Nat.add_sub_cancel' Jf]
             rw [this];exact List.take_append_drop (N2 - m) (l.drop m)
            have he:List.drop (auZ (sc.n.den ρ 0).toNat N2) (List.take N2 (List.drop i0 (SV.ao ρ cs)))++(SV.ao ρ cs).drop (i0+N2)=(SV.ao ρ cs).drop (i0+auZ (sc.n.den ρ 0).toNat N2):=he;rw [←List.append_assoc,List.append_assoc _ _ (List.drop (i0+N2) _),he];exact g2
          ·cases h
         ·cases h
        ·cases h
     ·cases h
    ·split at h
     ·rename_i r hr;split at h
      ·rename_i gJ;obtain⟨ht,hs,hw,Kd,t_⟩:=gJ;rw [aus]at h;obtain⟨aS,fu,rfl⟩:=h;simp only at cd db;obtain⟨v1,v4⟩:=bA cd;obtain⟨v1,v3⟩:=bA v1;obtain⟨v1,v2⟩:=bA v1;have v3:=bf v3;have v4:=bf v4;simp only [E.den]at v3 v4;have hrj:Reads hp ρ w S [r.j]:=fun j hj=>db j (by simp at hj;simp [hj])
       obtain⟨_,s2,s3⟩:=gG (te:=te) jM (fun j hj=>db j (auw _ hj)) v2 v4;have IN:0≤(qD sc.n r.p.len).den ρ 0:=by rw [nQ];omega
       have hml:(qD sc.n r.p.len).den ρ 0≤r.p.len.den ρ 0:=by rw [nQ];omega
       have zb:((qD sc.n r.p.len).den ρ 0).toNat=auZ (sc.n.den ρ 0).toNat (r.p.len.den ρ 0).toNat:=by
        rw [nQ];simp only [Nat.min_def,Int.min_def];split<;>split<;>omega
       obtain⟨a,c,hx,w',q1,q2,q3,q4⟩:=LW (P:=P) hr hrj v1 Kd hw v3 IN hml (s2.trans hs.symm) fu;refine⟨w',.inl ?_,by rw [←ht];exact q4⟩;have iR:=m6 (P:=P) tt.t ty te.t i hu hi a (r.p.len.den ρ 0).toNat c _ _ _ s3 (by rw [eh,s2,gx]) (fun ad had=>by
        have:=q1 ad had;have hct:=sy (ρ:=ρ) (sc.n.den ρ 0).toNat (auZ (sc.n.den ρ 0).toNat (r.p.len.den ρ 0).toNat) sc.aA (Nat.min_le_left _ _);rw [s2]at hct;rw [gx,hct,←zb];exact this) q3
       rw [hx];simp only [auC,iR,aut,auI,SV.val,goInt];congr 3;omega
      ·cases h
     ·cases h
   ·cases h
  ·cases h
 ·cases h
end
end Go.RX
