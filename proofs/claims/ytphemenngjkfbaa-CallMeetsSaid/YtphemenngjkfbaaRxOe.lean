/- Executor. -/
import Derived.Test.YtphemenngjkfbaaRxOd
open Bool renaming and_eq_true → ai
open Go.Builtin renaming zeroCells → ad8
open Go.Result renaming andThen_ok → adR
open Go.Sem renaming run_bind → adV, run_pure → aeb
open Int renaming toNat → ag
open List renaming append_nil → adW, eq_nil_of_length_eq_zero → adZ, map_cons → ad1, mem_cons_of_mem → adP, mem_map → aeu
open Option renaming getD_some → aes, map_eq_some_iff → adM
open Option.some renaming injEq → adK
namespace Go.RX
section
variable {P:Program} {ρ:Env} {w:World} {look:Nat→Option SV} {bK:Operand→Value} {hp:List Ck} {S:Nat→Nat→Prop} {nb nv:Nat} {T:List TI}
theorem fP: ∀{l:List SV} {aA:List bV},js l aA=true→∀i:Nat,rowAt ρ aA i=SV.ar ρ l
 | [],[],_,_=>rfl
 | [],_::_,h,_=>by simp [js]at h
 | v::r,[],h,_=>by cases v<;>simp [js]at h
 | v::r,c::aA,h,i=>by
  unfold js at h;split at h
  ·rename_i h1 _;cases h1
  ·rename_i k r' k' w aR h1 h2;cases h1;cases h2;simp only [ai,beq_iff_eq]at h;obtain⟨⟨rfl,rfl⟩,h⟩:=h;have:=fP h i;simp only [rowAt,ad1,List.flatMap_cons,SV.ar,SV.cells]at this ⊢;rw [this];simp [bV.cells,au,al,E.den]
  ·rename_i r' w aR h1 h2;cases h1;cases h2;simp only [ai,beq_iff_eq]at h;obtain⟨rfl,h⟩:=h;have:=fP h i;simp only [rowAt,ad1,List.flatMap_cons,SV.ar,SV.cells]at this ⊢;rw [this];simp [bV.cells,ou,E.den,BE.den]
  ·rename_i k n r' k' w aR h1 h2;cases h1;cases h2;simp only [ai,beq_iff_eq]at h;obtain⟨⟨rfl,rfl⟩,h⟩:=h;have:=fP h i;simp only [rowAt,ad1,List.flatMap_cons,SV.ar,SV.cells]at this ⊢;rw [this];simp only [bV.cells,au];congr 1
  ·rename_i r' w aR h1 h2;cases h1;cases h2;simp only [ai,beq_iff_eq]at h;obtain⟨rfl,h⟩:=h;have:=fP h i;simp only [rowAt,ad1,List.flatMap_cons,SV.ar,SV.cells]at this ⊢;rw [this];simp [bV.cells,xX,E.den,aC]
  ·rename_i r' w a' aR h1 h2;cases h1;cases h2;simp only [ai,beq_iff_eq]at h;obtain⟨rfl,h⟩:=h;have:=fP h i;simp only [rowAt,ad1,List.flatMap_cons,SV.ar,SV.cells]at this ⊢;rw [this];simp [bV.cells,dI]
  ·rename_i r' w aR h1 h2;cases h1;cases h2;simp only [ai,beq_iff_eq]at h;obtain⟨rfl,h⟩:=h;have:=fP h i;simp only [rowAt,ad1,List.flatMap_cons,SV.ar,SV.cells]at this ⊢;rw [this];simp [bV.cells,dI,E.den,po,dW]
  ·cases h
theorem eX{te:TI}{z:List bV}(h:gI T te=some z):(∀i:Nat,rowAt ρ z i=SV.ar ρ te.zero)∧bX z=te.size∧0<te.size:=by
 unfold gI at h;split at h
 ·split at h
  ·rename_i hc;cases h;simp only [ai,beq_iff_eq,Bool.not_eq_true',beq_eq_false_iff_ne]at hc;exact⟨fun i=>fP hc.1.1 i,hc.1.2,by omega⟩
  ·cases h
 ·cases h
theorem tz{te:TI}{z:List bV}(h:gI T te=some z)(n:Nat):aF ρ n z=(List.replicate n (SV.ar ρ te.zero)).flatten:=by
 rw [cy,cH fun i _=>(eX h).1 i];unfold fX
 induction n with
 | zero=>rfl
 | succ n ih=>rw [List.range_succ,List.flatMap_append,ih,List.replicate_succ',List.flatten_append];simp
theorem AF(hT:bw P T=true){ts:TypeId}{tt:TI}(fk:aS T ts=some tt){n c:E}{res:gU}(h:CJ T nv tt.k n c=some res)(cb: ∀b∈res.vcs,b.prop ρ)
  (k k':IntKind):
  sV P ρ w hp S nb nv ((do pure (.value (←Instr.makeSlice ts (.int k (n.den ρ 0)) (.int k' (c.den ρ 0)))):Sem Next).run P w) res:=by
 unfold CJ at h;split at h
 ·rename_i t hk;split at h
  ·rename_i te gK;obtain⟨rfl,oH⟩:=ay hT fk;obtain⟨rfl,cN⟩:=ay hT gK;have cT:=oH.kind;rw [hk]at cT;have hu:=bL cT;obtain⟨i,hi,eV,uu,z,hz,hc⟩:=cN.info;have pz:z.cells.size=te.size:=by rw [←Array.length_toList,←hc ρ,bp,cN.Aa]
   split at h
   ·rename_i zc Af;cases h;simp only at cb;obtain⟨v1,v3⟩:=bu cb;obtain⟨v1,v2⟩:=bu v1;have v1:=bc v1;have v2:=bc v2;simp only [E.den]at v1;obtain⟨b1,b2⟩:=gC (n:=c) (bytes:=te.bytes) (v3 _ (by simp)) (by omega);obtain⟨z1,z2,z3⟩:=eX (ρ:=ρ) Af;have PI:(i.bytes:Int)*c.den ρ 0≤281474976710656:=by
     have:((i.bytes*(c.den ρ 0).toNat:Nat):Int)≤281474976710656:=by rw [uu,Nat.mul_comm];omega
     rw [Int.natCast_mul,Int.toNat_of_nonneg (by omega)]at this;exact this
    have hr:=run_make (P:=P) w tt.t te.t i z hu hi hz k k' (n.den ρ 0) (c.den ρ 0) v1 v2 PI (by omega);have fl:(madeCells z.cells ((c.den ρ 0).toNat*i.size)).toList=aF ρ (c.den ρ 0).toNat zc:=by
     rw [tz Af,hc ρ,eV,←pz];unfold madeCells;exact tl _ _ (by omega)
    refine⟨te.t,te.size,n,zc,.slice (some ⟨w.heap.size,0,none⟩) (n.den ρ 0).toNat (c.den ρ 0).toNat,w.alloc (.cells (madeCells z.cells ((c.den ρ 0).toNat*i.size)) te.t),fun k=>k=w.heap.size,rfl,rfl,by simp only [adV,hr,adR,aeb],rfl,⟨rfl,rfl,rfl,by simp⟩,fun k hk=>heap_alloc_old w _ hk,⟨?_,?_⟩,?_⟩
    ·simp only [if_true];refine⟨by rw [dp,z2],.inr ⟨w.heap.size,0,_,_,rfl,⟨_,_,heap_alloc_new w _,.zero _⟩,by omega,by unfold maxLen;omega,fun _=>?_,?_⟩⟩
     ·rw [size_madeCells,eV,Nat.zero_add];exact Nat.le_refl _
     ·rw [fl,←z2,List.drop_zero,qv _ _ _ (by omega)]
    ·intro k;simp only [Value.ownBlock,adK];exact⟨fun h=>⟨h.symm,.inl trivial⟩,fun h=>h.1.symm⟩
    ·rintro k rfl;simp
   ·cases h
  ·cases h
 ·cases h
theorem zL(hT:bw P T=true){ti te:TI}{t:TypeId}(ht:aS T t=some ti){e:Nat}(hk:ti.k= .slice e)(gK:aS T e=some te){zc:List bV}(_:gI T te=some zc):
  sV P ρ w hp S nb nv ((do pure (.value (←Instr.buildSlice t 0 #[])):Sem Next).run P w) {val:= .vv nv,gJ:= .own (.cc true nv e te.size (.lit 0) zc)}:=by
 obtain⟨rfl,cN⟩:=ay hT ht;obtain⟨rfl,JJ⟩:=ay hT gK;have cT:=cN.kind;rw [hk]at cT;have hu:=bL cT;have hr:(Instr.buildSlice ti.t 0 #[]).run P w= .ok (.slice (some ⟨w.heap.size,0,none⟩) 0 0) (w.alloc (.cells #[] te.t)):=by
  simp [Instr.buildSlice,run_underlying hu,JJ.sizeOf w,Instr.fill,newRow,Array.range_zero']
 refine⟨te.t,te.size,.lit 0,zc,.slice (some ⟨w.heap.size,0,none⟩) 0 0,w.alloc (.cells #[] te.t),fun k=>k=w.heap.size,rfl,rfl,by simp only [adV,hr,adR,aeb],rfl,⟨rfl,rfl,rfl,by simp⟩,fun k hk=>heap_alloc_old w _ hk,⟨?_,?_⟩,?_⟩
 ·simp only [if_true];refine⟨by simp [E.den,aF,aH],.inr ⟨w.heap.size,0,0,#[],rfl,⟨_,_,heap_alloc_new w _,.zero _⟩,Nat.le_refl _,Nat.zero_le _,by simp,by simp [E.den,aF,aH]⟩⟩
 ·intro k;simp only [Value.ownBlock,adK];exact⟨fun h=>⟨h.symm,.inl trivial⟩,fun h=>h.1.symm⟩
 ·rintro k rfl;simp
theorem Jc{x:SV}{r:Rt}(hr:gf hp x=some r)(cU:Reads hp ρ w S [r.j])(hv: ∀b∈r.vcs,b.prop ρ)(HN:r.md=true)(hw:r.s=bX r.aA)(hl:0≤r.p.len.den ρ 0)
  {m:E} (hm:0≤m.den ρ 0) (hle:m.den ρ 0≤r.p.len.den ρ 0) {sc aR:List bV} (hs:bX sc=r.s) (ew:gu r.p.lo m r.aA sc=some aR):
  ∃a c,x.val ρ= .slice a (r.p.len.den ρ 0).toNat c∧∃w',(∀ad,a=some ad→(storeCells ad (aF ρ (m.den ρ 0).toNat sc)).run P w= .ok () w')∧((m.den ρ 0).toNat=0→w'=w)∧(a=none→w'=w)∧
   H9 P w ρ hp S r.j (.cc true r.v r.t r.s r.n aR) w':=by
 obtain⟨hj,dL⟩:=eM hr cU hv;have hS:=cU r.j (by simp) _ hj;have hS:(aB true r.t r.s (ρ.vv.getD r.v V1.nil).v (r.n.den ρ 0).toNat (aF ρ (r.n.den ρ 0).toNat r.aA)).p w (S r.j):=by
  rw [HN]at hS;exact hS
 obtain⟨h1,h2,h3,a,c,k,Xe,hc,hx,hk⟩:=dL;obtain⟨c1,c2,c3⟩:=fD (ρ:=ρ) h1 hm ew;have Mo:=zI (f:=rowAt ρ r.aA) (g:=rowAt ρ sc) (h:=rowAt ρ aR) (s:=r.s) (fun i=>by rw [dj];exact hw.symm) (r.n.den ρ 0).toNat (r.p.lo.den ρ 0).toNat (m.den ρ 0).toNat (by omega) c3;have sX:(aF ρ (m.den ρ 0).toNat sc).length=(m.den ρ 0).toNat*r.s:=by rw [dp,hs]
 have TU:(r.p.lo.den ρ 0).toNat*r.s+(aF ρ (m.den ρ 0).toNat sc).length≤(aF ρ (r.n.den ρ 0).toNat r.aA).length:=by
  rw [sX,dp,←hw,←Nat.add_mul];exact Nat.mul_le_mul_right _ (by omega)
 have FA:a=none→(m.den ρ 0).toNat=0:=by
  rintro rfl;obtain⟨_,_,he,kG,_⟩:=(CO hS).1;rw [Xe]at he;cases he;have:=kG rfl;omega
 obtain⟨w',g1,g2,g3,g4,g5,g6⟩:=BA (P:=P) hS ((r.p.lo.den ρ 0).toNat*r.s) TU (oI _ _) ((a.getD ⟨0,0,none⟩).add ((r.p.lo.den ρ 0).toNat*r.s)) (fun Jb=>by
  rw [Xe];cases a with
  | none=>
   have:=FA rfl;rw [sX,this,Nat.zero_mul]at Jb;omega
  | some a=>rfl)
 have hz:(m.den ρ 0).toNat=0→aF ρ (m.den ρ 0).toNat sc=[]:=fun h=>adZ (by rw [sX,h,Nat.zero_mul])
 refine⟨_,_,hx,w',?_,fun h=>g6 (hz h),fun h=>?_,⟨⟨_,hj,by rw [HN];rfl⟩,rfl,g2,g3,g4,?_⟩⟩
 ·intro ad ry;by_cases h0:(m.den ρ 0).toNat=0
  ·rw [hz h0]at g6 ⊢;rw [g6 rfl];rfl
  ·cases a with
   | none=>simp at ry
   | some a0=>
    simp only [Option.map_some,adK]at ry;subst ry;have JN:(r.p.lo.den ρ 0).toNat<((r.p.mx.map fun m=>m.den ρ 0).map ag).getD c:=by
     cases UQ:(r.p.mx.map fun m=>m.den ρ 0)with
     | none=>simp only [Option.map_none,Option.getD_none];omega
     | some q=>have:=h3 q UQ;simp only [Option.map_some,aes];omega
    rw [hk (.inl JN)];exact g1
 ·cases a with
  | some a=>simp at h
  | none=>exact g6 (hz (FA rfl))
 ·simp only [Ck.den];rw [cy,Mo];rw [sX]at g5;exact g5
theorem Lj{te:TI}{z:Value}{zc:List bV}(Af:gI T te=some zc)(hc:SV.ar ρ te.zero=z.cells.toList)(pz:z.cells.size=te.size)(n:Nat):
  (ad8 z.cells n).toList=aF ρ n zc:=by
 obtain⟨z1,z2,z3⟩:=eX (ρ:=ρ) Af;rw [tz Af,hc];unfold ad8;exact tl _ _ (by omega)
theorem zM(hT:bw P T=true){ts:TypeId}{tt:TI}(fk:aS T ts=some tt){x:SV}{res:gU}(h:zA T hp tt.k x=some res)
  (cU:Reads hp ρ w S res.rd) (cb: ∀b∈res.vcs,b.prop ρ) (ty:TypeId):
  sV P ρ w hp S nb nv ((do pure (.value (←Builtin.clear_ #[ts] ty #[x.val ρ])):Sem Next).run P w) res:=by
 unfold zA at h;split at h
 ·rename_i e hk;cases h;obtain⟨rfl,oH⟩:=ay hT fk;have cT:=oH.kind;rw [hk]at cT;have hu:=bL cT;show(Sem.run P _ w)= .ok (Next.value (SV.undef.val ρ)) w;simp [Builtin.clear_,run_underlying hu,SV.val,undef]
 ·rename_i e hk _;split at h
  ·rename_i te r gK hr;obtain⟨rfl,oH⟩:=ay hT fk;obtain⟨rfl,cN⟩:=ay hT gK;have cT:=oH.kind;rw [hk]at cT;have hu:=bL cT;obtain⟨i,hi,eV,uu,z,hz,hc⟩:=cN.info;have pz:z.cells.size=te.size:=by rw [←Array.length_toList,←hc ρ,bp,cN.Aa]
   split at h
   ·rename_i zc Af;split at h
    ·rename_i hG;obtain⟨hs,hw,HN⟩:=hG;rw [adM]at h;obtain⟨aR,ew,rfl⟩:=h;simp only at cb cU;obtain⟨v1,v2⟩:=bu cb;have v2:=bc v2;simp only [E.den]at v2;obtain⟨_,z2,z3⟩:=eX (ρ:=ρ) Af;obtain⟨a,c,hx,w',s1,s2,s3,s4⟩:=Jc (P:=P) hr cU v1 HN hw v2 v2 (Int.le_refl _) (z2.trans hs.symm) ew;refine⟨w',.inl ?_,s4⟩;rw [hx];cases a with
     | none=>
      rw [s3 rfl];simp [Builtin.clear_,run_underlying hu,SV.val,undef]
     | some ad=>
      by_cases h0:(r.p.len.den ρ 0).toNat=0
      ·rw [s2 h0,h0];simp [Builtin.clear_,run_underlying hu,SV.val,undef]
      ·obtain⟨N,hN⟩: ∃N,(r.p.len.den ρ 0).toNat=N+1:=⟨(r.p.len.den ρ 0).toNat - 1,by omega⟩;have ow:=s1 ad rfl;rw [←Lj Af (hc ρ) pz,hN]at ow;rw [hN];obtain⟨z',Gj,_⟩:=cN.zero w;have hzz:(zeroValue te.t).run P w= .ok z w:=by simp [zeroValue,typeInfo,hi,hz]
       simp [Builtin.clear_,run_underlying hu,hzz,ow,SV.val,undef]
    ·cases h
   ·cases h
  ·cases h
 ·cases h
theorem qw(a b:E):(wS a b).den ρ 0=min (a.den ρ 0) (b.den ρ 0):=by
 unfold wS;split
 ·rfl
 ·split
  ·rename_i h;subst h;simp
  ·simp only [E.den,ax];omega
theorem oX(ts ty e:TypeId)(i:TypeInfo)(ht:P.underlying ts=some (.slice e))(hi:P.info? e=some i)(a:Option Addr)(N C:Nat)(y:Value)(m:Nat)(news:List Value)
  (hy:World.wq w y m news) (hl:news.length=m*i.size) {w':World} (hs: ∀ad,a=some ad→(storeCells ad (news.take (Nat.min m N*i.size))).run P w= .ok () w') (hn:a=none→w'=w):
  (Builtin.copy_ #[ts,ts] ty #[.slice a N C,y]).run P w= .ok (goInt (Nat.min m N)) w':=by
 obtain⟨q1,q2⟩:=wu (P:=P) hy hl;have q2:=q2 (Nat.min m N) (Nat.min_le_left _ _);cases a with
 | none=>
  have:=hn rfl;subst this;simp [Builtin.copy_,run_underlying ht,sizeOf,typeInfo,hi,q1,q2]
 | some ad=>
  have:=hs ad rfl;simp [Builtin.copy_,run_underlying ht,sizeOf,typeInfo,hi,q1,q2,this]
theorem Q0(k:IntKind)(N i m:Nat)(f g h:Nat→Int)(hle:i+m≤N)(hh: ∀j,h j=if i≤j∧j<i+m then g (j - i)else f j):
  al k N h=(al k N f).take i++al k m g++(al k N f).drop (i+m):=by
 have e: ∀(n:Nat) (q:Nat→Int),al k n q=fX (fun j=>[.int k (q j)]) n:=by
  intro n q;unfold al fX
  induction n with
  | zero=>rfl
  | succ n ih=>rw [List.range_succ,List.flatMap_append,List.map_append,ih];simp
 have:=zI (f:=fun j=>[.int k (f j)]) (g:=fun j=>[.int k (g j)]) (h:=fun j=>[.int k (h j)]) (s:=1) (fun _=>rfl) N i m hle (fun j=>by rw [hh];split<;>rfl);rw [Nat.mul_one,Nat.mul_one]at this;rw [e,e,e];exact this
theorem AG(hT:bw P T=true){ts:TypeId}{tt:TI}(fk:aS T ts=some tt){x y:SV}{res:gU}(h:CI T hp tt.k x y=some res)
  (cU:Reads hp ρ w S res.rd) (cb: ∀b∈res.vcs,b.prop ρ) (ty:TypeId):
  sV P ρ w hp S nb nv ((do pure (.value (←Builtin.copy_ #[ts,ts] ty #[x.val ρ,y.val ρ])):Sem Next).run P w) res:=by
 unfold CI at h;split at h
 ·rename_i t hk;split at h
  ·rename_i te gK;obtain⟨rfl,oH⟩:=ay hT fk;obtain⟨rfl,cN⟩:=ay hT gK;have cT:=oH.kind;rw [hk]at cT;have hu:=bL cT;obtain⟨i,hi,eV,uu,z,hz,hc⟩:=cN.info;split at h
   ·rename_i sc iM;split at h
    ·rename_i b ix s n cap;split at h
     ·rename_i j b' cs hf;obtain⟨hj,dM⟩:=cP hf;simp only [Ck.rh,beq_iff_eq]at dM;subst dM;split at h
      ·cases h
      ·rename_i DR;have hs:s=te.size:=by
        apply Classical.byContradiction;intro fc;exact DR (.inl fc)
       split at h
       ·rename_i k N a;split at h
        ·rename_i k' a' ew;split at h
         ·rename_i hG;obtain⟨je,rfl⟩:=hG;cases h;simp only at cb cU;obtain⟨v1,v5⟩:=bu cb;obtain⟨v1,v4⟩:=bu v1;obtain⟨v1,v3⟩:=bu v1;obtain⟨v1,v2⟩:=bu v1;have v2:=bc v2;have v3:=bc v3;have v4:=bc v4;have v5:=bc v5;rw [bH]at v5;simp only [E.den]at v2 v3 v4 v5;obtain⟨_,s2,s3⟩:=fE (te:=te) iM (fun j hj=>cU j (adP _ hj)) v1 v2;have hS:=cU j (by simp) _ hj;have hS:(ak (ρ.bv.getD b 0) true (al k N (a.den ρ))).p w (S j):=by
           simpa [Ck.den,SV.ar,SV.cells] using hS
          rw [ew]at s3;have DU:((wS sc.n n).den ρ 0).toNat=Nat.min (sc.n.den ρ 0).toNat (n.den ρ 0).toNat:=by
           rw [qw];simp only [Nat.min_def,Int.min_def];split<;>split<;>omega
          have OJ:Nat.min (sc.n.den ρ 0).toNat (n.den ρ 0).toNat≤(sc.n.den ρ 0).toNat:=Nat.min_le_left _ _;have V9:Nat.min (sc.n.den ρ 0).toNat (n.den ρ 0).toNat≤(n.den ρ 0).toNat:=Nat.min_le_right _ _;have zZ:(aF ρ (sc.n.den ρ 0).toNat [⟨.int k,1,a'⟩]).take (Nat.min (sc.n.den ρ 0).toNat (n.den ρ 0).toNat*i.size)=al k (Nat.min (sc.n.den ρ 0).toNat (n.den ρ 0).toNat) (a'.den ρ):=by
           rw [dR,eV,←hs,je,Nat.mul_one];exact nf k _ _ _ OJ
          obtain⟨g1,g2⟩:=qC (P:=P) hS (ix.den ρ 0).toNat (vs:=al k (Nat.min (sc.n.den ρ 0).toNat (n.den ρ 0).toNat) (a'.den ρ)) (by rw [aE,aE];omega)
           (fun u hu=>by simp only [al,aeu]at hu;obtain⟨_,_,rfl⟩:=hu;rfl)
          have hZ:=oX (P:=P) tt.t ty te.t i hu hi (some ⟨ρ.bv.getD b 0,(ix.den ρ 0).toNat*s,none⟩) (n.den ρ 0).toNat (cap.den ρ 0).toNat _ _ _ s3 (by rw [dR,aE,eV,←hs,je,Nat.mul_one])
           (fun ad ry=>by
            cases ry;rw [zZ,je,Nat.mul_one];exact g1) (by simp)
          refine⟨w.setCells (ρ.bv.getD b 0) (ix.den ρ 0).toNat (al k (Nat.min (sc.n.den ρ 0).toNat (n.den ρ 0).toNat) (a'.den ρ)),.inl ?_,⟨⟨_,hj,rfl⟩,rfl,ik _ _ _ _,ij _ _ _ _,fun k hk=>gA _ _ _ _ _ (fun e=>hk ((hS.1 k).2 e)),?_⟩⟩
          ·have e1:(SV.sl b ix s n cap).val ρ= .slice (some ⟨ρ.bv.getD b 0,(ix.den ρ 0).toNat*s,none⟩) (n.den ρ 0).toNat (cap.den ρ 0).toNat:=rfl;rw [e1];simp only [adV,hZ,adR,aeb,SV.val,goInt];congr 3;have:0≤(wS sc.n n).den ρ 0:=by rw [qw];omega
           omega
          ·rw [aE]at g2;have:=Q0 k N (ix.den ρ 0).toNat (Nat.min (sc.n.den ρ 0).toNat (n.den ρ 0).toNat) (a.den ρ) (a'.den ρ) ((E.BD a ix (wS sc.n n) a').den ρ) (by omega) (fun j=>by simp only [E.den,DU]);simp only [Ck.den,SV.ar,SV.cells,adW];rw [this];exact g2
         ·cases h
        ·cases h
       ·split at h
        ·rename_i i0 n0 m0 k' a' O7 XC JM ew;split at h
         ·rename_i je;rw [adM]at h;obtain⟨uC,pR,rfl⟩:=h;simp only at cb cU;have di:=cA (ρ:=ρ) O7;have dn:=cA (ρ:=ρ) XC;have dm:=cA (ρ:=ρ) JM;obtain⟨_,s2,s3⟩:=fE (te:=te) iM (fun j hj=>cU j (adP _ hj)) cb (by omega);have hS:=cU j (by simp) _ hj;rw [ew,dm,Int.toNat_natCast]at s3;obtain⟨p1,p2⟩:=ot ρ pR;have dZ:SV.ar ρ [SV.aX k' (min m0 n0) a']=al k' (min m0 n0) (a'.den ρ):=by simp [SV.ar,SV.cells]
          rw [dZ]at p1 p2;obtain⟨g1,g2⟩:=qC (P:=P) hS i0 p2 (fun u hu=>by simp only [al,aeu]at hu;obtain⟨_,_,rfl⟩:=hu;rfl);have zZ:(aF ρ m0 [⟨.int k',1,a'⟩]).take (Nat.min m0 n0*i.size)=al k' (min m0 n0) (a'.den ρ):=by
           rw [dR,eV,←hs,je,Nat.mul_one];exact nf k' _ _ _ (Nat.min_le_left _ _)
          have hZ:=oX (P:=P) tt.t ty te.t i hu hi (some ⟨ρ.bv.getD b 0,i0,none⟩) n0 (cap.den ρ 0).toNat _ _ _ s3 (by rw [dR,aE,eV,←hs,je,Nat.mul_one])
           (fun ad ry=>by
            cases ry;rw [zZ];exact g1) (by simp)
          refine⟨w.setCells (ρ.bv.getD b 0) i0 (al k' (min m0 n0) (a'.den ρ)),.inl ?_,⟨⟨_,hj,rfl⟩,rfl,ik _ _ _ _,ij _ _ _ _,fun k hk=>gA _ _ _ _ _ (fun e=>hk ((hS.1 k).2 e)),?_⟩⟩
          ·have e1:(SV.sl b ix s n cap).val ρ= .slice (some ⟨ρ.bv.getD b 0,i0,none⟩) n0 (cap.den ρ 0).toNat:=by simp [SV.val,di,dn,je]
           rw [e1];simp only [adV,hZ,adR,aeb,SV.val,goInt,E.den]
          ·simp only [Ck.den,p1];exact g2
         ·cases h
        ·cases h
     ·cases h
    ·split at h
     ·rename_i r hr;split at h
      ·rename_i hG;obtain⟨ht,hs,hw,HN,wH⟩:=hG;rw [adM]at h;obtain⟨aR,ew,rfl⟩:=h;simp only at cb cU;obtain⟨v1,v4⟩:=bu cb;obtain⟨v1,v3⟩:=bu v1;obtain⟨v1,v2⟩:=bu v1;have v3:=bc v3;have v4:=bc v4;simp only [E.den]at v3 v4;have TS:Reads hp ρ w S [r.j]:=fun j hj=>cU j (by simp at hj;simp [hj])
       obtain⟨_,s2,s3⟩:=fE (te:=te) iM (fun j hj=>cU j (adP _ hj)) v2 v4;have JM:0≤(wS sc.n r.p.len).den ρ 0:=by rw [qw];omega
       have hml:(wS sc.n r.p.len).den ρ 0≤r.p.len.den ρ 0:=by rw [qw];omega
       have DU:((wS sc.n r.p.len).den ρ 0).toNat=Nat.min (sc.n.den ρ 0).toNat (r.p.len.den ρ 0).toNat:=by
        rw [qw];simp only [Nat.min_def,Int.min_def];split<;>split<;>omega
       obtain⟨a,c,hx,w',q1,q2,q3,q4⟩:=Jc (P:=P) hr TS v1 HN hw v3 JM hml (s2.trans hs.symm) ew;refine⟨w',.inl ?_,by rw [←ht];exact q4⟩;have hZ:=oX (P:=P) tt.t ty te.t i hu hi a (r.p.len.den ρ 0).toNat c _ _ _ s3 (by rw [dp,s2,eV]) (fun ad ry=>by
        have:=q1 ad ry;have hct:=qv (ρ:=ρ) (sc.n.den ρ 0).toNat (Nat.min (sc.n.den ρ 0).toNat (r.p.len.den ρ 0).toNat) sc.aA (Nat.min_le_left _ _);rw [s2]at hct;rw [eV,hct,←DU];exact this) q3
       rw [hx];simp only [adV,hZ,adR,aeb,SV.val,goInt];congr 3;omega
      ·cases h
     ·cases h
   ·cases h
  ·cases h
 ·cases h
end
end Go.RX
