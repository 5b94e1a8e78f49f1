/- Executor. -/
import Derived.Test.YtphemenngjkfbaaRxOd
open Bool renaming and_eq_true → ai
open Go.Builtin renaming zeroCells → agV
open Go.Result renaming andThen_ok → agG
open Go.Sem renaming run_bind → agK, run_pure → ag0
open Int renaming toNat → ag
open List renaming append_nil → agL, eq_nil_of_length_eq_zero → agU, map_cons → agW, mem_cons_of_mem → agF, mem_map → ag9
open Option renaming getD_some → ahe, map_eq_some_iff → agz
open Option.some renaming injEq → agy
namespace Go.RX
section
variable {P:Program} {ρ:Env} {w:World} {look:Nat→Option SV} {bQ:Operand→Value} {hp:List Ck} {S:Nat→Nat→Prop} {nb nv:Nat} {T:List TI}
theorem gp: ∀{l:List SV} {aA:List cb},j8 l aA=true→∀i:Nat,rowAt ρ aA i=SV.ar ρ l
 | [],[],_,_=>rfl
 | [],_::_,h,_=>by simp [j8]at h
 | v::r,[],h,_=>by cases v<;>simp [j8]at h
 | v::r,c::aA,h,i=>by
  unfold j8 at h;split at h
  ·rename_i h1 _;cases h1
  ·rename_i k r' k' w aV h1 h2;cases h1;cases h2;simp only [ai,beq_iff_eq]at h;obtain⟨⟨rfl,rfl⟩,h⟩:=h;have:=gp h i;simp only [rowAt,agW,List.flatMap_cons,SV.ar,SV.cells]at this ⊢;rw [this];simp [cb.cells,ax,ak,E.den]
  ·rename_i r' w aV h1 h2;cases h1;cases h2;simp only [ai,beq_iff_eq]at h;obtain⟨rfl,h⟩:=h;have:=gp h i;simp only [rowAt,agW,List.flatMap_cons,SV.ar,SV.cells]at this ⊢;rw [this];simp [cb.cells,oh,E.den,BE.den]
  ·rename_i k n r' k' w aV h1 h2;cases h1;cases h2;simp only [ai,beq_iff_eq]at h;obtain⟨⟨rfl,rfl⟩,h⟩:=h;have:=gp h i;simp only [rowAt,agW,List.flatMap_cons,SV.ar,SV.cells]at this ⊢;rw [this];simp only [cb.cells,ax];congr 1
  ·rename_i r' w aV h1 h2;cases h1;cases h2;simp only [ai,beq_iff_eq]at h;obtain⟨rfl,h⟩:=h;have:=gp h i;simp only [rowAt,agW,List.flatMap_cons,SV.ar,SV.cells]at this ⊢;rw [this];simp [cb.cells,pJ,E.den,aD]
  ·rename_i r' w a' aV h1 h2;cases h1;cases h2;simp only [ai,beq_iff_eq]at h;obtain⟨rfl,h⟩:=h;have:=gp h i;simp only [rowAt,agW,List.flatMap_cons,SV.ar,SV.cells]at this ⊢;rw [this];simp [cb.cells,dC]
  ·rename_i r' w aV h1 h2;cases h1;cases h2;simp only [ai,beq_iff_eq]at h;obtain⟨rfl,h⟩:=h;have:=gp h i;simp only [rowAt,agW,List.flatMap_cons,SV.ar,SV.cells]at this ⊢;rw [this];simp [cb.cells,dC,E.den,qx,eI]
  ·cases h
theorem fA{te:TI}{z:List cb}(h:ig T te=some z):(∀i:Nat,rowAt ρ z i=SV.ar ρ te.zero)∧cn z=te.size∧0<te.size:=by
 unfold ig at h;split at h
 ·split at h
  ·rename_i hc;cases h;simp only [ai,beq_iff_eq,Bool.not_eq_true',beq_eq_false_iff_ne]at hc;exact⟨fun i=>gp hc.1.1 i,hc.1.2,by omega⟩
  ·cases h
 ·cases h
theorem u_{te:TI}{z:List cb}(h:ig T te=some z)(n:Nat):aI ρ n z=(List.replicate n (SV.ar ρ te.zero)).flatten:=by
 rw [cK,cV fun i _=>(fA h).1 i];unfold gD
 induction n with
 | zero=>rfl
 | succ n ih=>rw [List.range_succ,List.flatMap_append,ih,List.replicate_succ',List.flatten_append];simp
theorem CH(hT:bC P T=true){ts:TypeId}{tt:TI}(fL:aW T ts=some tt){n c:E}{res:iC}(h:Fg T nv tt.k n c=some res)(cu: ∀b∈res.vcs,b.prop ρ)
  (k k':IntKind):
  Did P ρ w hp S nb nv ((do pure (.value (←Instr.makeSlice ts (.int k (n.den ρ 0)) (.int k' (c.den ρ 0)))):Sem Next).run P w) res:=by
 unfold Fg at h;split at h
 ·rename_i t hk;split at h
  ·rename_i te ik;obtain⟨rfl,pW⟩:=ay hT fL;obtain⟨rfl,c9⟩:=ay hT ik;have dg:=pW.kind;rw [hk]at dg;have hu:=bR dg;obtain⟨i,hi,fx,wq,z,hz,hc⟩:=c9.info;have qF:z.cells.size=te.size:=by rw [←Array.length_toList,←hc ρ,bw,c9.B6]
   split at h
   ·rename_i zc B9;cases h;simp only at cu;obtain⟨v1,v3⟩:=bB cu;obtain⟨v1,v2⟩:=bB v1;have v1:=bg v1;have v2:=bg v2;simp only [E.den]at v1;obtain⟨b1,b2⟩:=hJ (n:=c) (bytes:=te.bytes) (v3 _ (by simp)) (by omega);obtain⟨z1,z2,z3⟩:=fA (ρ:=ρ) B9;have Ob:(i.bytes:Int)*c.den ρ 0≤281474976710656:=by
     have:((i.bytes*(c.den ρ 0).toNat:Nat):Int)≤281474976710656:=by rw [wq,Nat.mul_comm];omega
     rw [Int.natCast_mul,Int.toNat_of_nonneg (by omega)]at this;exact this
    have hr:=run_make (P:=P) w tt.t te.t i z hu hi hz k k' (n.den ρ 0) (c.den ρ 0) v1 v2 Ob (by omega);have fM:(madeCells z.cells ((c.den ρ 0).toNat*i.size)).toList=aI ρ (c.den ρ 0).toNat zc:=by
     rw [u_ B9,hc ρ,fx,←qF];unfold madeCells;exact u0 _ _ (by omega)
    refine⟨te.t,te.size,n,zc,.slice (some ⟨w.heap.size,0,none⟩) (n.den ρ 0).toNat (c.den ρ 0).toNat,w.alloc (.cells (madeCells z.cells ((c.den ρ 0).toNat*i.size)) te.t),fun k=>k=w.heap.size,rfl,rfl,by simp only [agK,hr,agG,ag0],rfl,⟨rfl,rfl,rfl,by simp⟩,fun k hk=>heap_alloc_old w _ hk,⟨?_,?_⟩,?_⟩
    ·simp only [if_true];refine⟨by rw [dI,z2],.inr ⟨w.heap.size,0,_,_,rfl,⟨_,_,heap_alloc_new w _,.zero _⟩,by omega,by unfold maxLen;omega,fun _=>?_,?_⟩⟩
     ·rw [size_madeCells,fx,Nat.zero_add];exact Nat.le_refl _
     ·rw [fM,←z2,List.drop_zero,rQ _ _ _ (by omega)]
    ·intro k;simp only [Value.ownBlock,agy];exact⟨fun h=>⟨h.symm,.inl trivial⟩,fun h=>h.1.symm⟩
    ·rintro k rfl;simp
   ·cases h
  ·cases h
 ·cases h
theorem BJ(hT:bC P T=true){ti te:TI}{t:TypeId}(ht:aW T t=some ti){e:Nat}(hk:ti.k= .slice e)(ik:aW T e=some te){zc:List cb}(_:ig T te=some zc):
  Did P ρ w hp S nb nv ((do pure (.value (←Instr.buildSlice t 0 #[])):Sem Next).run P w) {val:= .vv nv,ij:= .own (.cy true nv e te.size (.lit 0) zc)}:=by
 obtain⟨rfl,c9⟩:=ay hT ht;obtain⟨rfl,LZ⟩:=ay hT ik;have dg:=c9.kind;rw [hk]at dg;have hu:=bR dg;have hr:(Instr.buildSlice ti.t 0 #[]).run P w= .ok (.slice (some ⟨w.heap.size,0,none⟩) 0 0) (w.alloc (.cells #[] te.t)):=by
  simp [Instr.buildSlice,run_underlying hu,LZ.sizeOf w,Instr.fill,newRow,Array.range_zero']
 refine⟨te.t,te.size,.lit 0,zc,.slice (some ⟨w.heap.size,0,none⟩) 0 0,w.alloc (.cells #[] te.t),fun k=>k=w.heap.size,rfl,rfl,by simp only [agK,hr,agG,ag0],rfl,⟨rfl,rfl,rfl,by simp⟩,fun k hk=>heap_alloc_old w _ hk,⟨?_,?_⟩,?_⟩
 ·simp only [if_true];refine⟨by simp [E.den,aI,aT],.inr ⟨w.heap.size,0,0,#[],rfl,⟨_,_,heap_alloc_new w _,.zero _⟩,Nat.le_refl _,Nat.zero_le _,by simp,by simp [E.den,aI,aT]⟩⟩
 ·intro k;simp only [Value.ownBlock,agy];exact⟨fun h=>⟨h.symm,.inl trivial⟩,fun h=>h.1.symm⟩
 ·rintro k rfl;simp
theorem Ln{x:SV}{r:Rt}(hr:gJ hp x=some r)(dp:Reads hp ρ w S [r.j])(hv: ∀b∈r.vcs,b.prop ρ)(J2:r.md=true)(hw:r.s=cn r.aA)(hl:0≤r.p.len.den ρ 0)
  {m:E} (hm:0≤m.den ρ 0) (hle:m.den ρ 0≤r.p.len.den ρ 0) {sc aV:List cb} (hs:cn sc=r.s) (eU:gV r.p.lo m r.aA sc=some aV):
  ∃a c,x.val ρ= .slice a (r.p.len.den ρ 0).toNat c∧∃w',(∀ad,a=some ad→(storeCells ad (aI ρ (m.den ρ 0).toNat sc)).run P w= .ok () w')∧((m.den ρ 0).toNat=0→w'=w)∧(a=none→w'=w)∧
   Ki P w ρ hp S r.j (.cy true r.v r.t r.s r.n aV) w':=by
 obtain⟨hj,eu⟩:=fh hr dp hv;have hS:=dp r.j (by simp) _ hj;have hS:(aC true r.t r.s (ρ.vv.getD r.v V1.nil).v (r.n.den ρ 0).toNat (aI ρ (r.n.den ρ 0).toNat r.aA)).p w (S r.j):=by
  rw [J2]at hS;exact hS
 obtain⟨h1,h2,h3,a,c,k,ZG,hc,hx,hk⟩:=eu;obtain⟨c1,c2,c3⟩:=gb (ρ:=ρ) h1 hm eU;have Oc:=BH (f:=rowAt ρ r.aA) (g:=rowAt ρ sc) (h:=rowAt ρ aV) (s:=r.s) (fun i=>by rw [dH];exact hw.symm) (r.n.den ρ 0).toNat (r.p.lo.den ρ 0).toNat (m.den ρ 0).toNat (by omega) c3;have uL:(aI ρ (m.den ρ 0).toNat sc).length=(m.den ρ 0).toNat*r.s:=by rw [dI,hs]
 have WL:(r.p.lo.den ρ 0).toNat*r.s+(aI ρ (m.den ρ 0).toNat sc).length≤(aI ρ (r.n.den ρ 0).toNat r.aA).length:=by
  rw [uL,dI,←hw,←Nat.add_mul];exact Nat.mul_le_mul_right _ (by omega)
 have HD:a=none→(m.den ρ 0).toNat=0:=by
  rintro rfl;obtain⟨_,_,he,l7,_⟩:=(Fk hS).1;rw [ZG]at he;cases he;have:=l7 rfl;omega
 obtain⟨w',g1,g2,g3,g4,g5,g6⟩:=D5 (P:=P) hS ((r.p.lo.den ρ 0).toNat*r.s) WL (pX _ _) ((a.getD ⟨0,0,none⟩).add ((r.p.lo.den ρ 0).toNat*r.s)) (fun Lm=>by
  rw [ZG];cases a with
  | none=>
   have:=HD rfl;rw [uL,this,Nat.zero_mul]at Lm;omega
  | some a=>rfl)
 have hz:(m.den ρ 0).toNat=0→aI ρ (m.den ρ 0).toNat sc=[]:=fun h=>agU (by rw [uL,h,Nat.zero_mul])
 refine⟨_,_,hx,w',?_,fun h=>g6 (hz h),fun h=>?_,⟨⟨_,hj,by rw [J2];rfl⟩,rfl,g2,g3,g4,?_⟩⟩
 ·intro ad had;by_cases h0:(m.den ρ 0).toNat=0
  ·rw [hz h0]at g6 ⊢;rw [g6 rfl];rfl
  ·cases a with
   | none=>simp at had
   | some a0=>
    simp only [Option.map_some,agy]at had;subst had;have L5:(r.p.lo.den ρ 0).toNat<((r.p.mx.map fun m=>m.den ρ 0).map ag).getD c:=by
     cases XC:(r.p.mx.map fun m=>m.den ρ 0)with
     | none=>simp only [Option.map_none,Option.getD_none];omega
     | some q=>have:=h3 q XC;simp only [Option.map_some,ahe];omega
    rw [hk (.inl L5)];exact g1
 ·cases a with
  | some a=>simp at h
  | none=>exact g6 (hz (HD rfl))
 ·simp only [Ck.den];rw [cK,Oc];rw [uL]at g5;exact g5
theorem Nn{te:TI}{z:Value}{zc:List cb}(B9:ig T te=some zc)(hc:SV.ar ρ te.zero=z.cells.toList)(qF:z.cells.size=te.size)(n:Nat):
  (agV z.cells n).toList=aI ρ n zc:=by
 obtain⟨z1,z2,z3⟩:=fA (ρ:=ρ) B9;rw [u_ B9,hc];unfold agV;exact u0 _ _ (by omega)
theorem BK(hT:bC P T=true){ts:TypeId}{tt:TI}(fL:aW T ts=some tt){x:SV}{res:iC}(h:BA T hp tt.k x=some res)
  (dp:Reads hp ρ w S res.rd) (cu: ∀b∈res.vcs,b.prop ρ) (ty:TypeId):
  Did P ρ w hp S nb nv ((do pure (.value (←Builtin.clear_ #[ts] ty #[x.val ρ])):Sem Next).run P w) res:=by
 unfold BA at h;split at h
 ·rename_i e hk;cases h;obtain⟨rfl,pW⟩:=ay hT fL;have dg:=pW.kind;rw [hk]at dg;have hu:=bR dg;show(Sem.run P _ w)= .ok (Next.value (SV.undef.val ρ)) w;simp [Builtin.clear_,run_underlying hu,SV.val,undef]
 ·rename_i e hk _;split at h
  ·rename_i te r ik hr;obtain⟨rfl,pW⟩:=ay hT fL;obtain⟨rfl,c9⟩:=ay hT ik;have dg:=pW.kind;rw [hk]at dg;have hu:=bR dg;obtain⟨i,hi,fx,wq,z,hz,hc⟩:=c9.info;have qF:z.cells.size=te.size:=by rw [←Array.length_toList,←hc ρ,bw,c9.B6]
   split at h
   ·rename_i zc B9;split at h
    ·rename_i iH;obtain⟨hs,hw,J2⟩:=iH;rw [agz]at h;obtain⟨aV,eU,rfl⟩:=h;simp only at cu dp;obtain⟨v1,v2⟩:=bB cu;have v2:=bg v2;simp only [E.den]at v2;obtain⟨_,z2,z3⟩:=fA (ρ:=ρ) B9;obtain⟨a,c,hx,w',s1,s2,s3,s4⟩:=Ln (P:=P) hr dp v1 J2 hw v2 v2 (Int.le_refl _) (z2.trans hs.symm) eU;refine⟨w',.inl ?_,s4⟩;rw [hx];cases a with
     | none=>
      rw [s3 rfl];simp [Builtin.clear_,run_underlying hu,SV.val,undef]
     | some ad=>
      by_cases h0:(r.p.len.den ρ 0).toNat=0
      ·rw [s2 h0,h0];simp [Builtin.clear_,run_underlying hu,SV.val,undef]
      ·obtain⟨N,hN⟩: ∃N,(r.p.len.den ρ 0).toNat=N+1:=⟨(r.p.len.den ρ 0).toNat - 1,by omega⟩;have lG:=s1 ad rfl;rw [←Nn B9 (hc ρ) qF,hN]at lG;rw [hN];obtain⟨z',Ih,_⟩:=c9.zero w;have hzz:(zeroValue te.t).run P w= .ok z w:=by simp [zeroValue,typeInfo,hi,hz]
       simp [Builtin.clear_,run_underlying hu,hzz,lG,SV.val,undef]
    ·cases h
   ·cases h
  ·cases h
 ·cases h
theorem rR(a b:E):(y2 a b).den ρ 0=min (a.den ρ 0) (b.den ρ 0):=by
 unfold y2;split
 ·rfl
 ·split
  ·rename_i h;subst h;simp
  ·simp only [E.den,aF];omega
theorem ql(ts ty e:TypeId)(i:TypeInfo)(ht:P.underlying ts=some (.slice e))(hi:P.info? e=some i)(a:Option Addr)(N C:Nat)(y:Value)(m:Nat)(news:List Value)
  (hy:World.yD w y m news) (hl:news.length=m*i.size) {w':World} (hs: ∀ad,a=some ad→(storeCells ad (news.take (Nat.min m N*i.size))).run P w= .ok () w') (hn:a=none→w'=w):
  (Builtin.copy_ #[ts,ts] ty #[.slice a N C,y]).run P w= .ok (goInt (Nat.min m N)) w':=by
 obtain⟨q1,q2⟩:=yE (P:=P) hy hl;have q2:=q2 (Nat.min m N) (Nat.min_le_left _ _);cases a with
 | none=>
  have:=hn rfl;subst this;simp [Builtin.copy_,run_underlying ht,sizeOf,typeInfo,hi,q1,q2]
 | some ad=>
  have:=hs ad rfl;simp [Builtin.copy_,run_underlying ht,sizeOf,typeInfo,hi,q1,q2,this]
theorem TD(k:IntKind)(N i m:Nat)(f g h:Nat→Int)(hle:i+m≤N)(hh: ∀j,h j=if i≤j∧j<i+m then g (j - i)else f j):
  ak k N h=(ak k N f).take i++ak k m g++(ak k N f).drop (i+m):=by
 have e: ∀(n:Nat) (q:Nat→Int),ak k n q=gD (fun j=>[.int k (q j)]) n:=by
  intro n q;unfold ak gD
  induction n with
  | zero=>rfl
  | succ n ih=>rw [List.range_succ,List.flatMap_append,List.map_append,ih];simp
 have:=BH (f:=fun j=>[.int k (f j)]) (g:=fun j=>[.int k (g j)]) (h:=fun j=>[.int k (h j)]) (s:=1) (fun _=>rfl) N i m hle (fun j=>by rw [hh];split<;>rfl);rw [Nat.mul_one,Nat.mul_one]at this;rw [e,e,e];exact this
theorem CI(hT:bC P T=true){ts:TypeId}{tt:TI}(fL:aW T ts=some tt){x y:SV}{res:iC}(h:Ff T hp tt.k x y=some res)
  (dp:Reads hp ρ w S res.rd) (cu: ∀b∈res.vcs,b.prop ρ) (ty:TypeId):
  Did P ρ w hp S nb nv ((do pure (.value (←Builtin.copy_ #[ts,ts] ty #[x.val ρ,y.val ρ])):Sem Next).run P w) res:=by
 unfold Ff at h;split at h
 ·rename_i t hk;split at h
  ·rename_i te ik;obtain⟨rfl,pW⟩:=ay hT fL;obtain⟨rfl,c9⟩:=ay hT ik;have dg:=pW.kind;rw [hk]at dg;have hu:=bR dg;obtain⟨i,hi,fx,wq,z,hz,hc⟩:=c9.info;split at h
   ·rename_i sc jx;split at h
    ·rename_i b ix s n cap;split at h
     ·rename_i j b' cs hf;obtain⟨hj,ew⟩:=c_ hf;simp only [Ck.sN,beq_iff_eq]at ew;subst ew;split at h
      ·cases h
      ·rename_i qG;have hs:s=te.size:=by
        apply Classical.byContradiction;intro eJ;exact qG (.inl eJ)
       split at h
       ·rename_i k N a;split at h
        ·rename_i k' a' eU;split at h
         ·rename_i iH;obtain⟨iX,rfl⟩:=iH;cases h;simp only at cu dp;obtain⟨v1,v5⟩:=bB cu;obtain⟨v1,v4⟩:=bB v1;obtain⟨v1,v3⟩:=bB v1;obtain⟨v1,v2⟩:=bB v1;have v2:=bg v2;have v3:=bg v3;have v4:=bg v4;have v5:=bg v5;rw [bN]at v5;simp only [E.den]at v2 v3 v4 v5;obtain⟨_,s2,s3⟩:=gf (te:=te) jx (fun j hj=>dp j (agF _ hj)) v1 v2;have hS:=dp j (by simp) _ hj;have hS:(ao (ρ.bv.getD b 0) true (ak k N (a.den ρ))).p w (S j):=by
           simpa [Ck.den,SV.ar,SV.cells] using hS
          rw [eU]at s3;have F_:((y2 sc.n n).den ρ 0).toNat=Nat.min (sc.n.den ρ 0).toNat (n.den ρ 0).toNat:=by
           rw [rR];simp only [Nat.min_def,Int.min_def];split<;>split<;>omega
          have QS:Nat.min (sc.n.den ρ 0).toNat (n.den ρ 0).toNat≤(sc.n.den ρ 0).toNat:=Nat.min_le_left _ _;have Zi:Nat.min (sc.n.den ρ 0).toNat (n.den ρ 0).toNat≤(n.den ρ 0).toNat:=Nat.min_le_right _ _;have B0:(aI ρ (sc.n.den ρ 0).toNat [⟨.int k,1,a'⟩]).take (Nat.min (sc.n.den ρ 0).toNat (n.den ρ 0).toNat*i.size)=ak k (Nat.min (sc.n.den ρ 0).toNat (n.den ρ 0).toNat) (a'.den ρ):=by
           rw [eC,fx,←hs,iX,Nat.mul_one];exact ot k _ _ _ QS
          obtain⟨g1,g2⟩:=rV (P:=P) hS (ix.den ρ 0).toNat (vs:=ak k (Nat.min (sc.n.den ρ 0).toNat (n.den ρ 0).toNat) (a'.den ρ)) (by rw [aH,aH];omega)
           (fun u hu=>by simp only [ak,ag9]at hu;obtain⟨_,_,rfl⟩:=hu;rfl)
          have iL:=ql (P:=P) tt.t ty te.t i hu hi (some ⟨ρ.bv.getD b 0,(ix.den ρ 0).toNat*s,none⟩) (n.den ρ 0).toNat (cap.den ρ 0).toNat _ _ _ s3 (by rw [eC,aH,fx,←hs,iX,Nat.mul_one])
           (fun ad had=>by
            cases had;rw [B0,iX,Nat.mul_one];exact g1) (by simp)
          refine⟨w.setCells (ρ.bv.getD b 0) (ix.den ρ 0).toNat (ak k (Nat.min (sc.n.den ρ 0).toNat (n.den ρ 0).toNat) (a'.den ρ)),.inl ?_,⟨⟨_,hj,rfl⟩,rfl,iZ _ _ _ _,iY _ _ _ _,fun k hk=>g_ _ _ _ _ _ (fun e=>hk ((hS.1 k).2 e)),?_⟩⟩
          ·have e1:(SV.sl b ix s n cap).val ρ= .slice (some ⟨ρ.bv.getD b 0,(ix.den ρ 0).toNat*s,none⟩) (n.den ρ 0).toNat (cap.den ρ 0).toNat:=rfl;rw [e1];simp only [agK,iL,agG,ag0,SV.val,goInt];congr 3;have:0≤(y2 sc.n n).den ρ 0:=by rw [rR];omega
           omega
          ·rw [aH]at g2;have:=TD k N (ix.den ρ 0).toNat (Nat.min (sc.n.den ρ 0).toNat (n.den ρ 0).toNat) (a.den ρ) (a'.den ρ) ((E.Eg a ix (y2 sc.n n) a').den ρ) (by omega) (fun j=>by simp only [E.den,F_]);simp only [Ck.den,SV.ar,SV.cells,agL];rw [this];exact g2
         ·cases h
        ·cases h
       ·split at h
        ·rename_i i0 n0 m0 k' a' Kh FD F7 eU;split at h
         ·rename_i iX;rw [agz]at h;obtain⟨wG,qT,rfl⟩:=h;simp only at cu dp;have di:=cM (ρ:=ρ) Kh;have dn:=cM (ρ:=ρ) FD;have dm:=cM (ρ:=ρ) F7;obtain⟨_,s2,s3⟩:=gf (te:=te) jx (fun j hj=>dp j (agF _ hj)) cu (by omega);have hS:=dp j (by simp) _ hj;rw [eU,dm,Int.toNat_natCast]at s3;obtain⟨p1,p2⟩:=pI ρ qT;have eL:SV.ar ρ [SV.a_ k' (min m0 n0) a']=ak k' (min m0 n0) (a'.den ρ):=by simp [SV.ar,SV.cells]
          rw [eL]at p1 p2;obtain⟨g1,g2⟩:=rV (P:=P) hS i0 p2 (fun u hu=>by simp only [ak,ag9]at hu;obtain⟨_,_,rfl⟩:=hu;rfl);have B0:(aI ρ m0 [⟨.int k',1,a'⟩]).take (Nat.min m0 n0*i.size)=ak k' (min m0 n0) (a'.den ρ):=by
           rw [eC,fx,←hs,iX,Nat.mul_one];exact ot k' _ _ _ (Nat.min_le_left _ _)
          have iL:=ql (P:=P) tt.t ty te.t i hu hi (some ⟨ρ.bv.getD b 0,i0,none⟩) n0 (cap.den ρ 0).toNat _ _ _ s3 (by rw [eC,aH,fx,←hs,iX,Nat.mul_one])
           (fun ad had=>by
            cases had;rw [B0];exact g1) (by simp)
          refine⟨w.setCells (ρ.bv.getD b 0) i0 (ak k' (min m0 n0) (a'.den ρ)),.inl ?_,⟨⟨_,hj,rfl⟩,rfl,iZ _ _ _ _,iY _ _ _ _,fun k hk=>g_ _ _ _ _ _ (fun e=>hk ((hS.1 k).2 e)),?_⟩⟩
          ·have e1:(SV.sl b ix s n cap).val ρ= .slice (some ⟨ρ.bv.getD b 0,i0,none⟩) n0 (cap.den ρ 0).toNat:=by simp [SV.val,di,dn,iX]
           rw [e1];simp only [agK,iL,agG,ag0,SV.val,goInt,E.den]
          ·simp only [Ck.den,p1];exact g2
         ·cases h
        ·cases h
     ·cases h
    ·split at h
     ·rename_i r hr;split at h
      ·rename_i iH;obtain⟨ht,hs,hw,J2,yN⟩:=iH;rw [agz]at h;obtain⟨aV,eU,rfl⟩:=h;simp only at cu dp;obtain⟨v1,v4⟩:=bB cu;obtain⟨v1,v3⟩:=bB v1;obtain⟨v1,v2⟩:=bB v1;have v3:=bg v3;have v4:=bg v4;simp only [E.den]at v3 v4;have WK:Reads hp ρ w S [r.j]:=fun j hj=>dp j (by simp at hj;simp [hj])
       obtain⟨_,s2,s3⟩:=gf (te:=te) jx (fun j hj=>dp j (agF _ hj)) v2 v4;have F7:0≤(y2 sc.n r.p.len).den ρ 0:=by rw [rR];omega
       have Tu:(y2 sc.n r.p.len).den ρ 0≤r.p.len.den ρ 0:=by rw [rR];omega
       have F_:((y2 sc.n r.p.len).den ρ 0).toNat=Nat.min (sc.n.den ρ 0).toNat (r.p.len.den ρ 0).toNat:=by
        rw [rR];simp only [Nat.min_def,Int.min_def];split<;>split<;>omega
       obtain⟨a,c,hx,w',q1,q2,q3,q4⟩:=Ln (P:=P) hr WK v1 J2 hw v3 F7 Tu (s2.trans hs.symm) eU;refine⟨w',.inl ?_,by rw [←ht];exact q4⟩;have iL:=ql (P:=P) tt.t ty te.t i hu hi a (r.p.len.den ρ 0).toNat c _ _ _ s3 (by rw [dI,s2,fx]) (fun ad had=>by
        have:=q1 ad had;have hct:=rQ (ρ:=ρ) (sc.n.den ρ 0).toNat (Nat.min (sc.n.den ρ 0).toNat (r.p.len.den ρ 0).toNat) sc.aA (Nat.min_le_left _ _);rw [s2]at hct;rw [fx,hct,←F_];exact this) q3
       rw [hx];simp only [agK,iL,agG,ag0,SV.val,goInt];congr 3;omega
      ·cases h
     ·cases h
   ·cases h
  ·cases h
 ·cases h
end
end Go.RX
