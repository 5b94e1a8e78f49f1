/- Executor. -/
import Derived.Test.YtllcdnkfbeokhaaGreatRxOd
open Bool renaming and_eq_true → ai
open Go.Builtin renaming zeroCells → aqM
open Go.Result renaming andThen_ok → aqu
open Go.Sem renaming run_bind → aqA, run_pure → aqH
open Int renaming toNat → ag, toNat_natCast → aqD
open List renaming eq_nil_of_length_eq_zero → aqF, map_cons → aqP, mem_cons_of_mem → aqv, mem_map → aqV
open Nat renaming min → aqW
open Option renaming map_eq_some_iff → aqq
open Option.some renaming injEq → aqp
namespace Go.RX
section
variable {P:Program} {ρ:Env} {w:World} {look:Nat→Option SV} {bD:Operand→Value} {hp:List Ck} {S:Nat→Nat→Prop} {nb nv:Nat} {T:List TI}
theorem gU: ∀{l:List SV} {ay:List bL},kf l ay=true→∀i:Nat,rowAt ρ ay i=SV.ao ρ l
 | [],[],_,_=>rfl
 | [],_::_,h,_=>by simp [kf]at h
 | v::r,[],h,_=>by cases v<;>simp [kf]at h
 | v::r,c::ay,h,i=>by
  unfold kf at h;split at h
  ·rename_i h1 _;cases h1
  ·rename_i k r' k' w aN h1 h2;cases h1;cases h2;simp only [ai,beq_iff_eq]at h;obtain⟨⟨rfl,rfl⟩,h⟩:=h;have:=gU h i;simp only [rowAt,aqP,List.flatMap_cons,SV.ao,SV.cells]at this ⊢;rw [this];simp [bL.cells,aC,aj,E.den]
  ·rename_i r' w aN h1 h2;cases h1;cases h2;simp only [ai,beq_iff_eq]at h;obtain⟨rfl,h⟩:=h;have:=gU h i;simp only [rowAt,aqP,List.flatMap_cons,SV.ao,SV.cells]at this ⊢;rw [this];simp [bL.cells,ij,E.den,BE.den]
  ·rename_i k n r' k' w aN h1 h2;cases h1;cases h2;simp only [ai,beq_iff_eq]at h;obtain⟨⟨rfl,rfl⟩,h⟩:=h;have:=gU h i;simp only [rowAt,aqP,List.flatMap_cons,SV.ao,SV.cells]at this ⊢;rw [this];simp only [bL.cells,aC];congr 1
  ·rename_i r' w aN h1 h2;cases h1;cases h2;simp only [ai,beq_iff_eq]at h;obtain⟨rfl,h⟩:=h;have:=gU h i;simp only [rowAt,aqP,List.flatMap_cons,SV.ao,SV.cells]at this ⊢;rw [this];simp [bL.cells,tH,E.den,cA]
  ·rename_i r' w a' aN h1 h2;cases h1;cases h2;simp only [ai,beq_iff_eq]at h;obtain⟨rfl,h⟩:=h;have:=gU h i;simp only [rowAt,aqP,List.flatMap_cons,SV.ao,SV.cells]at this ⊢;rw [this];simp [bL.cells,fN]
  ·rename_i r' w aN h1 h2;cases h1;cases h2;simp only [ai,beq_iff_eq]at h;obtain⟨rfl,h⟩:=h;have:=gU h i;simp only [rowAt,aqP,List.flatMap_cons,SV.ao,SV.cells]at this ⊢;rw [this];simp [bL.cells,fN,E.den,pW,dc]
  ·cases h
theorem fS{te:TI}{z:List bL}(h:iO T te=some z):(∀i:Nat,rowAt ρ z i=SV.ao ρ te.zero)∧bW z=te.size∧0<te.size:=by
 unfold iO at h;split at h
 ·split at h
  ·rename_i hc;cases h;simp only [ai,beq_iff_eq,Bool.not_eq_true',beq_eq_false_iff_ne]at hc;exact⟨fun i=>gU hc.1.1 i,hc.1.2,by omega⟩
  ·cases h
 ·cases h
theorem tU{te:TI}{z:List bL}(h:iO T te=some z)(n:Nat):aF ρ n z=(List.replicate n (SV.ao ρ te.zero)).flatten:=by
 rw [cH,cT fun i _=>(fS h).1 i];unfold g8
 induction n with
 | zero=>rfl
 | succ n ih=>rw [List.range_succ,List.flatMap_append,ih,List.replicate_succ',List.flatten_append];simp
theorem AP(hT:bx P T=true){ts:TypeId}{tt:TI}(fQ:aP T ts=some tt){n c:E}{res:gY}(h:CW T nv tt.k n c=some res)(bY: ∀b∈res.vcs,b.prop ρ)
  (k k':IntKind):
  Did P ρ w hp S nb nv ((do pure (.value (←Instr.makeSlice ts (.int k (n.den ρ 0)) (.int k' (c.den ρ 0)))):Sem Next).run P w) res:=by
 unfold CW at h;split at h
 ·rename_i t hk;split at h
  ·rename_i te iJ;obtain⟨rfl,pg⟩:=aA hT fQ;obtain⟨rfl,cO⟩:=aA hT iJ;have df:=pg.kind;rw [hk]at df;have hu:=bH df;obtain⟨i,hi,fy,uT,z,hz,hc⟩:=cO.info;have pK:z.cells.size=te.size:=by rw [←Array.length_toList,←hc ρ,bh,cO.AB]
   split at h
   ·rename_i zc yJ;cases h;simp only at bY;obtain⟨v1,v3⟩:=bw bY;obtain⟨v1,v2⟩:=bw v1;have v1:=aZ v1;have v2:=aZ v2;simp only [E.den]at v1;obtain⟨b1,b2⟩:=iM (n:=c) (bytes:=te.bytes) (v3 _ (by simp)) (by omega);obtain⟨z1,z2,z3⟩:=fS (ρ:=ρ) yJ;have FU:(i.bytes:Int)*c.den ρ 0≤281474976710656:=by
     have:((i.bytes*(c.den ρ 0).toNat:Nat):Int)≤281474976710656:=by rw [uT,Nat.mul_comm];omega
     rw [Int.natCast_mul,Int.toNat_of_nonneg (by omega)]at this;exact this
    have hr:=run_make (P:=P) w tt.t te.t i z hu hi hz k k' (n.den ρ 0) (c.den ρ 0) v1 v2 FU (by omega);have gp:(madeCells z.cells ((c.den ρ 0).toNat*i.size)).toList=aF ρ (c.den ρ 0).toNat zc:=by
     rw [tU yJ,hc ρ,fy,←pK];unfold madeCells;exact tN _ _ (by omega)
    refine⟨te.t,te.size,n,zc,.slice (some ⟨w.heap.size,0,none⟩) (n.den ρ 0).toNat (c.den ρ 0).toNat,w.alloc (.cells (madeCells z.cells ((c.den ρ 0).toNat*i.size)) te.t),fun k=>k=w.heap.size,rfl,rfl,by simp only [aqA,hr,aqu,aqH],rfl,⟨rfl,rfl,rfl,by simp⟩,fun k hk=>heap_alloc_old w _ hk,⟨?_,?_⟩,?_⟩
    ·simp only [if_true];refine⟨by rw [dS,z2],.inr ⟨w.heap.size,0,_,_,rfl,⟨_,_,heap_alloc_new w _,.zero _⟩,by omega,by unfold maxLen;omega,fun _=>?_,?_⟩⟩
     ·rw [size_madeCells,fy,Nat.zero_add];exact Nat.le_refl _
     ·rw [gp,←z2,List.drop_zero,qU _ _ _ (by omega)]
    ·intro k;simp only [Value.ownBlock,aqp];exact⟨fun h=>⟨h.symm,.inl trivial⟩,fun h=>h.1.symm⟩
    ·rintro k rfl;simp
   ·cases h
  ·cases h
 ·cases h
theorem zX(hT:bx P T=true){ti te:TI}{t:TypeId}(ht:aP T t=some ti){e:Nat}(hk:ti.k= .slice e)(iJ:aP T e=some te){zc:List bL}(_:iO T te=some zc):
  Did P ρ w hp S nb nv ((do pure (.value (←Instr.buildSlice t 0 #[])):Sem Next).run P w) {val:= .vv nv,gZ:= .own (.cr true nv e te.size (.lit 0) zc)}:=by
 obtain⟨rfl,cO⟩:=aA hT ht;obtain⟨rfl,JN⟩:=aA hT iJ;have df:=cO.kind;rw [hk]at df;have hu:=bH df;have hr:(Instr.buildSlice ti.t 0 #[]).run P w= .ok (.slice (some ⟨w.heap.size,0,none⟩) 0 0) (w.alloc (.cells #[] te.t)):=by
  simp [Instr.buildSlice,run_underlying hu,JN.sizeOf w,Instr.fill,newRow,Array.range_zero']
 refine⟨te.t,te.size,.lit 0,zc,.slice (some ⟨w.heap.size,0,none⟩) 0 0,w.alloc (.cells #[] te.t),fun k=>k=w.heap.size,rfl,rfl,by simp only [aqA,hr,aqu,aqH],rfl,⟨rfl,rfl,rfl,by simp⟩,fun k hk=>heap_alloc_old w _ hk,⟨?_,?_⟩,?_⟩
 ·simp only [if_true];refine⟨by simp [E.den,aF,aK],.inr ⟨w.heap.size,0,0,#[],rfl,⟨_,_,heap_alloc_new w _,.zero _⟩,Nat.le_refl _,Nat.zero_le _,by simp,by simp [E.den,aF,aK]⟩⟩
 ·intro k;simp only [Value.ownBlock,aqp];exact⟨fun h=>⟨h.symm,.inl trivial⟩,fun h=>h.1.symm⟩
 ·rintro k rfl;simp
theorem I_{x:SV}{r:Rt}(hr:gL hp x=some r)(cN:Reads hp ρ w S [r.j])(hv: ∀b∈r.vcs,b.prop ρ)(HO:r.md=true)(hw:r.s=bW r.ay)(hl:0≤r.p.len.den ρ 0)
  {m:E} (hm:0≤m.den ρ 0) (hle:m.den ρ 0≤r.p.len.den ρ 0) {sc aN:List bL} (hs:bW sc=r.s) (eT:iD r.p.lo m r.ay sc=some aN):
  ∃a c,x.val ρ= .slice a (r.p.len.den ρ 0).toNat c∧∃w',(∀ad,a=some ad→(storeCells ad (aF ρ (m.den ρ 0).toNat sc)).run P w= .ok () w')∧((m.den ρ 0).toNat=0→w'=w)∧(a=none→w'=w)∧
   Bb P w ρ hp S r.j (.cr true r.v r.t r.s r.n aN) w':=by
 obtain⟨hj,eJ⟩:=fE hr cN hv;have hS:=cN r.j (by simp) _ hj;have hS:(aB true r.t r.s (ρ.vv.getD r.v V1.nil).v (r.n.den ρ 0).toNat (aF ρ (r.n.den ρ 0).toNat r.ay)).p w (S r.j):=by
  rw [HO]at hS;exact hS
 obtain⟨h1,h2,h3,a,c,k,hv0,hc,hx,hk⟩:=eJ;obtain⟨c1,c2,c3⟩:=gN (ρ:=ρ) h1 hm eT;have MI:=yR (f:=rowAt ρ r.ay) (g:=rowAt ρ sc) (h:=rowAt ρ aN) (s:=r.s) (fun i=>by rw [dC];exact hw.symm) (r.n.den ρ 0).toNat (r.p.lo.den ρ 0).toNat (m.den ρ 0).toNat (by omega) c3;have tq:(aF ρ (m.den ρ 0).toNat sc).length=(m.den ρ 0).toNat*r.s:=by rw [dS,hs]
 have XB:(r.p.lo.den ρ 0).toNat*r.s+(aF ρ (m.den ρ 0).toNat sc).length≤(aF ρ (r.n.den ρ 0).toNat r.ay).length:=by
  rw [tq,dS,←hw,←Nat.add_mul];exact Nat.mul_le_mul_right _ (by omega)
 have Fw:a=none→(m.den ρ 0).toNat=0:=by
  rintro rfl;obtain⟨_,_,he,j4,_⟩:=(B4 hS).1;rw [hv0]at he;cases he;have:=j4 rfl;omega
 obtain⟨w',g1,g2,g3,g4,g5,g6⟩:=BK (P:=P) hS ((r.p.lo.den ρ 0).toNat*r.s) XB (pf _ _) ((a.getD ⟨0,0,none⟩).add ((r.p.lo.den ρ 0).toNat*r.s)) (fun I9=>by
  rw [hv0];cases a with
  | none=>
   have:=Fw rfl;rw [tq,this,Nat.zero_mul]at I9;omega
  | some a=>rfl)
 have hz:(m.den ρ 0).toNat=0→aF ρ (m.den ρ 0).toNat sc=[]:=fun h=>aqF (by rw [tq,h,Nat.zero_mul])
 refine⟨_,_,hx,w',?_,fun h=>g6 (hz h),fun h=>?_,⟨⟨_,hj,by rw [HO];rfl⟩,rfl,g2,g3,g4,?_⟩⟩
 ·intro ad had;by_cases h0:(m.den ρ 0).toNat=0
  ·rw [hz h0]at g6 ⊢;rw [g6 rfl];rfl
  ·cases a with
   | none=>simp at had
   | some a0=>
    simp only [Option.map_some,aqp]at had;subst had;have JR:(r.p.lo.den ρ 0).toNat<((r.p.mx.map fun m=>m.den ρ 0).map ag).getD c:=by
     cases Y7:(r.p.mx.map fun m=>m.den ρ 0)with
     | none=>simp only [Option.map_none,Option.getD_none];omega
     | some q=>have:=h3 q Y7;simp only [Option.map_some,Option.getD_some];omega
    rw [hk (.inl JR)];exact g1
 ·cases a with
  | some a=>simp at h
  | none=>exact g6 (hz (Fw rfl))
 ·simp only [Ck.den];rw [cH,MI];rw [tq]at g5;exact g5
theorem Lo{te:TI}{z:Value}{zc:List bL}(yJ:iO T te=some zc)(hc:SV.ao ρ te.zero=z.cells.toList)(pK:z.cells.size=te.size)(n:Nat):
  (aqM z.cells n).toList=aF ρ n zc:=by
 obtain⟨z1,z2,z3⟩:=fS (ρ:=ρ) yJ;rw [tU yJ,hc];unfold aqM;exact tN _ _ (by omega)
theorem zY(hT:bx P T=true){ts:TypeId}{tt:TI}(fQ:aP T ts=some tt){x:SV}{res:gY}(h:zJ T hp tt.k x=some res)
  (cN:Reads hp ρ w S res.rd) (bY: ∀b∈res.vcs,b.prop ρ) (ty:TypeId):
  Did P ρ w hp S nb nv ((do pure (.value (←Builtin.clear_ #[ts] ty #[x.val ρ])):Sem Next).run P w) res:=by
 unfold zJ at h;split at h
 ·rename_i e hk;cases h;obtain⟨rfl,pg⟩:=aA hT fQ;have df:=pg.kind;rw [hk]at df;have hu:=bH df;show(Sem.run P _ w)= .ok (Next.value (SV.undef.val ρ)) w;simp [Builtin.clear_,run_underlying hu,SV.val,undef]
 ·rename_i e hk _;split at h
  ·rename_i te r iJ hr;obtain⟨rfl,pg⟩:=aA hT fQ;obtain⟨rfl,cO⟩:=aA hT iJ;have df:=pg.kind;rw [hk]at df;have hu:=bH df;obtain⟨i,hi,fy,uT,z,hz,hc⟩:=cO.info;have pK:z.cells.size=te.size:=by rw [←Array.length_toList,←hc ρ,bh,cO.AB]
   split at h
   ·rename_i zc yJ;split at h
    ·rename_i fZ;obtain⟨hs,hw,HO⟩:=fZ;rw [aqq]at h;obtain⟨aN,eT,rfl⟩:=h;simp only at bY cN;obtain⟨v1,v2⟩:=bw bY;have v2:=aZ v2;simp only [E.den]at v2;obtain⟨_,z2,z3⟩:=fS (ρ:=ρ) yJ;obtain⟨a,c,hx,w',s1,s2,s3,s4⟩:=I_ (P:=P) hr cN v1 HO hw v2 v2 (Int.le_refl _) (z2.trans hs.symm) eT;refine⟨w',.inl ?_,s4⟩;rw [hx];cases a with
     | none=>
      rw [s3 rfl];simp [Builtin.clear_,run_underlying hu,SV.val,undef]
     | some ad=>
      by_cases h0:(r.p.len.den ρ 0).toNat=0
      ·rw [s2 h0,h0];simp [Builtin.clear_,run_underlying hu,SV.val,undef]
      ·obtain⟨N,hN⟩: ∃N,(r.p.len.den ρ 0).toNat=N+1:=⟨(r.p.len.den ρ 0).toNat - 1,by omega⟩;have qs:=s1 ad rfl;rw [←Lo yJ (hc ρ) pK,hN]at qs;rw [hN];obtain⟨z',Gi,_⟩:=cO.zero w;have hzz:(zeroValue te.t).run P w= .ok z w:=by simp [zeroValue,typeInfo,hi,hz]
       simp [Builtin.clear_,run_underlying hu,hzz,qs,SV.val,undef]
    ·cases h
   ·cases h
  ·cases h
 ·cases h
theorem m6(a b:E):(pF a b).den ρ 0=min (a.den ρ 0) (b.den ρ 0):=by
 unfold pF;split
 ·rfl
 ·split
  ·rename_i h;subst h;simp
  ·simp only [E.den,ar];omega
theorem ml(ts ty e:TypeId)(i:TypeInfo)(ht:P.underlying ts=some (.slice e))(hi:P.info? e=some i)(a:Option Addr)(N C:Nat)(y:Value)(m:Nat)(news:List Value)
  (hy:World.wL w y m news) (hl:news.length=m*i.size) {w':World} (hs: ∀ad,a=some ad→(storeCells ad (news.take (aqW m N*i.size))).run P w= .ok () w') (hn:a=none→w'=w):
  (Builtin.copy_ #[ts,ts] ty #[.slice a N C,y]).run P w= .ok (goInt (aqW m N)) w':=by
 obtain⟨q1,q2⟩:=xe (P:=P) hy hl;have q2:=q2 (aqW m N) (Nat.min_le_left _ _);cases a with
 | none=>
  have:=hn rfl;subst this;simp [Builtin.copy_,run_underlying ht,sizeOf,typeInfo,hi,q1,q2]
 | some ad=>
  have:=hs ad rfl;simp [Builtin.copy_,run_underlying ht,sizeOf,typeInfo,hi,q1,q2,this]
theorem Ja(k:IntKind)(N i m:Nat)(f g h:Nat→Int)(hle:i+m≤N)(hh: ∀j,h j=if i≤j∧j<i+m then g (j - i)else f j):
  aj k N h=(aj k N f).take i++aj k m g++(aj k N f).drop (i+m):=by
 have e: ∀(n:Nat) (q:Nat→Int),aj k n q=g8 (fun j=>[.int k (q j)]) n:=by
  intro n q;unfold aj g8
  induction n with
  | zero=>rfl
  | succ n ih=>rw [List.range_succ,List.flatMap_append,List.map_append,ih];simp
 have:=yR (f:=fun j=>[.int k (f j)]) (g:=fun j=>[.int k (g j)]) (h:=fun j=>[.int k (h j)]) (s:=1) (fun _=>rfl) N i m hle (fun j=>by rw [hh];split<;>rfl);rw [Nat.mul_one,Nat.mul_one]at this;rw [e,e,e];exact this
theorem AQ(hT:bx P T=true){ts:TypeId}{tt:TI}(fQ:aP T ts=some tt){x y:SV}{res:gY}(h:CV T hp tt.k x y=some res)
  (cN:Reads hp ρ w S res.rd) (bY: ∀b∈res.vcs,b.prop ρ) (ty:TypeId):
  Did P ρ w hp S nb nv ((do pure (.value (←Builtin.copy_ #[ts,ts] ty #[x.val ρ,y.val ρ])):Sem Next).run P w) res:=by
 unfold CV at h;split at h
 ·rename_i t hk;split at h
  ·rename_i te iJ;obtain⟨rfl,pg⟩:=aA hT fQ;obtain⟨rfl,cO⟩:=aA hT iJ;have df:=pg.kind;rw [hk]at df;have hu:=bH df;obtain⟨i,hi,fy,uT,z,hz,hc⟩:=cO.info;split at h
   ·rename_i sc jt;split at h
    ·rename_i b ix s n cap;split at h
     ·rename_i j b' cs hf;obtain⟨hj,dK⟩:=de hf;simp only [Ck.rK,beq_iff_eq]at dK;subst dK;split at h
      ·cases h
      ·rename_i xQ;have hs:s=te.size:=by
        apply Classical.byContradiction;intro fg;exact xQ (.inl fg)
       split at h
       ·rename_i k N a;split at h
        ·rename_i k' a' eT;split at h
         ·rename_i fZ;obtain⟨kx,rfl⟩:=fZ;cases h;simp only at bY cN;obtain⟨v1,v5⟩:=bw bY;obtain⟨v1,v4⟩:=bw v1;obtain⟨v1,v3⟩:=bw v1;obtain⟨v1,v2⟩:=bw v1;have v2:=aZ v2;have v3:=aZ v3;have v4:=aZ v4;have v5:=aZ v5;rw [bB]at v5;simp only [E.den]at v2 v3 v4 v5;obtain⟨_,s2,s3⟩:=fR (te:=te) jt (fun j hj=>cN j (aqv _ hj)) v1 v2;have hS:=cN j (by simp) _ hj;have hS:(ak (ρ.bv.getD b 0) true (aj k N (a.den ρ))).p w (S j):=by
           simpa [Ck.den,SV.ao,SV.cells] using hS
          rw [eT]at s3;have xH:((pF sc.n n).den ρ 0).toNat=aqW (sc.n.den ρ 0).toNat (n.den ρ 0).toNat:=by
           rw [m6];simp only [Nat.min_def,Int.min_def];split<;>split<;>omega
          have HQ:aqW (sc.n.den ρ 0).toNat (n.den ρ 0).toNat≤(sc.n.den ρ 0).toNat:=Nat.min_le_left _ _;have GV:aqW (sc.n.den ρ 0).toNat (n.den ρ 0).toNat≤(n.den ρ 0).toNat:=Nat.min_le_right _ _;have AY:(aF ρ (sc.n.den ρ 0).toNat [⟨.int k,1,a'⟩]).take (aqW (sc.n.den ρ 0).toNat (n.den ρ 0).toNat*i.size)=aj k (aqW (sc.n.den ρ 0).toNat (n.den ρ 0).toNat) (a'.den ρ):=by
           rw [dT,fy,←hs,kx,Nat.mul_one];exact fM k _ _ _ HQ
          obtain⟨g1,g2⟩:=oF (P:=P) hS (ix.den ρ 0).toNat (vs:=aj k (aqW (sc.n.den ρ 0).toNat (n.den ρ 0).toNat) (a'.den ρ)) (by rw [aD,aD];omega)
           (fun u hu=>by simp only [aj,aqV]at hu;obtain⟨_,_,rfl⟩:=hu;rfl)
          have ik:=ml (P:=P) tt.t ty te.t i hu hi (some ⟨ρ.bv.getD b 0,(ix.den ρ 0).toNat*s,none⟩) (n.den ρ 0).toNat (cap.den ρ 0).toNat _ _ _ s3 (by rw [dT,aD,fy,←hs,kx,Nat.mul_one])
           (fun ad had=>by
            cases had;rw [AY,kx,Nat.mul_one];exact g1) (by simp)
          refine⟨w.setCells (ρ.bv.getD b 0) (ix.den ρ 0).toNat (aj k (aqW (sc.n.den ρ 0).toNat (n.den ρ 0).toNat) (a'.den ρ)),.inl ?_,⟨⟨_,hj,rfl⟩,rfl,h_ _ _ _ _,hZ _ _ _ _,fun k hk=>gn _ _ _ _ _ (fun e=>hk ((hS.1 k).2 e)),?_⟩⟩
          ·have e1:(SV.sl b ix s n cap).val ρ= .slice (some ⟨ρ.bv.getD b 0,(ix.den ρ 0).toNat*s,none⟩) (n.den ρ 0).toNat (cap.den ρ 0).toNat:=rfl;rw [e1];simp only [aqA,ik,aqu,aqH,SV.val,goInt];congr 3;have:0≤(pF sc.n n).den ρ 0:=by rw [m6];omega
           omega
          ·rw [aD]at g2;have:=Ja k N (ix.den ρ 0).toNat (aqW (sc.n.den ρ 0).toNat (n.den ρ 0).toNat) (a.den ρ) (a'.den ρ) ((E.jl a ix (pF sc.n n) a').den ρ) (by omega) (fun j=>by simp only [E.den,xH]);simp only [Ck.den,SV.ao,SV.cells,List.append_nil];rw [this];exact g2
         ·cases h
        ·cases h
       ·split at h
        ·rename_i i0 n0 m0 k' a' LF Bx Gr eT;split at h
         ·rename_i kx;rw [aqq]at h;obtain⟨tI,nR,rfl⟩:=h;simp only at bY cN;have di:=bU (ρ:=ρ) LF;have dn:=bU (ρ:=ρ) Bx;have dm:=bU (ρ:=ρ) Gr;obtain⟨_,s2,s3⟩:=fR (te:=te) jt (fun j hj=>cN j (aqv _ hj)) bY (by omega);have hS:=cN j (by simp) _ hj;rw [eT,dm,aqD]at s3;obtain⟨p1,p2⟩:=lS ρ nR;have eG:SV.ao ρ [SV.cQ k' (min m0 n0) a']=aj k' (min m0 n0) (a'.den ρ):=by simp [SV.ao,SV.cells]
          rw [eG]at p1 p2;obtain⟨g1,g2⟩:=oF (P:=P) hS i0 p2 (fun u hu=>by simp only [aj,aqV]at hu;obtain⟨_,_,rfl⟩:=hu;rfl);have AY:(aF ρ m0 [⟨.int k',1,a'⟩]).take (aqW m0 n0*i.size)=aj k' (min m0 n0) (a'.den ρ):=by
           rw [dT,fy,←hs,kx,Nat.mul_one];exact fM k' _ _ _ (Nat.min_le_left _ _)
          have ik:=ml (P:=P) tt.t ty te.t i hu hi (some ⟨ρ.bv.getD b 0,i0,none⟩) n0 (cap.den ρ 0).toNat _ _ _ s3 (by rw [dT,aD,fy,←hs,kx,Nat.mul_one])
           (fun ad had=>by
            cases had;rw [AY];exact g1) (by simp)
          refine⟨w.setCells (ρ.bv.getD b 0) i0 (aj k' (min m0 n0) (a'.den ρ)),.inl ?_,⟨⟨_,hj,rfl⟩,rfl,h_ _ _ _ _,hZ _ _ _ _,fun k hk=>gn _ _ _ _ _ (fun e=>hk ((hS.1 k).2 e)),?_⟩⟩
          ·have e1:(SV.sl b ix s n cap).val ρ= .slice (some ⟨ρ.bv.getD b 0,i0,none⟩) n0 (cap.den ρ 0).toNat:=by simp [SV.val,di,dn,kx]
           rw [e1];simp only [aqA,ik,aqu,aqH,SV.val,goInt,E.den]
          ·simp only [Ck.den,p1];exact g2
         ·cases h
        ·rename_i i0 n0 k' a' LF Bx Gr eT;split at h
         ·rename_i k2 N2 a Gk;split at h
          ·rename_i fZ;obtain⟨kx,rfl,rfl⟩:=fZ;rw [aqq]at h;obtain⟨tI,nR,rfl⟩:=h;simp only at bY cN;obtain⟨v1,v2⟩:=bw bY;have v2:=aZ v2;simp only [E.den]at v2;have di:=bU (ρ:=ρ) LF;have dn:=bU (ρ:=ρ) Bx;obtain⟨_,s2,s3⟩:=fR (te:=te) jt (fun j hj=>cN j (aqv _ hj)) v1 v2;have hS:=cN j (by simp) _ hj;rw [eT]at s3;have xH:((pF sc.n (.lit N2)).den ρ 0).toNat=aqW (sc.n.den ρ 0).toNat N2:=by
            rw [m6];simp only [E.den,Nat.min_def,Int.min_def];split<;>split<;>omega
           have HQ:aqW (sc.n.den ρ 0).toNat N2≤(sc.n.den ρ 0).toNat:=Nat.min_le_left _ _;have GV:aqW (sc.n.den ρ 0).toNat N2≤N2:=Nat.min_le_right _ _;obtain⟨p1,p2⟩:=lS ρ nR;obtain⟨c1,c2⟩:=eK ρ Gk;have c1:aj k2 N2 (a.den ρ)=((SV.ao ρ cs).drop i0).take N2:=by rw [←c1];simp [SV.ao,SV.cells]
           obtain⟨g1,g2⟩:=oF (P:=P) hS i0 (vs:=aj k2 (aqW (sc.n.den ρ 0).toNat N2) (a'.den ρ)) (by rw [aD];omega) (fun u hu=>by simp only [aj,aqV]at hu;obtain⟨_,_,rfl⟩:=hu;rfl);have AY:(aF ρ (sc.n.den ρ 0).toNat [⟨.int k2,1,a'⟩]).take (aqW (sc.n.den ρ 0).toNat N2*i.size)=aj k2 (aqW (sc.n.den ρ 0).toNat N2) (a'.den ρ):=by
            rw [dT,fy,←hs,kx,Nat.mul_one];exact fM k2 _ _ _ HQ
           have ik:=ml (P:=P) tt.t ty te.t i hu hi (some ⟨ρ.bv.getD b 0,i0,none⟩) N2 (cap.den ρ 0).toNat _ _ _ s3 (by rw [dT,aD,fy,←hs,kx,Nat.mul_one])
            (fun ad had=>by
             cases had;rw [AY];exact g1) (by simp)
           refine⟨w.setCells (ρ.bv.getD b 0) i0 (aj k2 (aqW (sc.n.den ρ 0).toNat N2) (a'.den ρ)),.inl ?_,⟨⟨_,hj,rfl⟩,rfl,h_ _ _ _ _,hZ _ _ _ _,fun k hk=>gn _ _ _ _ _ (fun e=>hk ((hS.1 k).2 e)),?_⟩⟩
           ·have e1:(SV.sl b ix s n cap).val ρ= .slice (some ⟨ρ.bv.getD b 0,i0,none⟩) N2 (cap.den ρ 0).toNat:=by simp [SV.val,di,dn,kx]
            rw [e1];simp only [aqA,ik,aqu,aqH,SV.val,goInt];congr 3;have:0≤(pF sc.n (.lit N2)).den ρ 0:=by rw [m6];simp only [E.den];omega
            omega
           ·have SK:=Ja k2 N2 0 (aqW (sc.n.den ρ 0).toNat N2) (a.den ρ) (a'.den ρ) ((E.jl a (.lit 0) (pF sc.n (.lit N2)) a').den ρ) (by omega) (fun j=>by simp only [E.den,xH];rfl);have eG:SV.ao ρ [SV.cQ k2 N2 (E.jl a (.lit 0) (pF sc.n (.lit N2)) a')]=aj k2 N2 ((E.jl a (.lit 0) (pF sc.n (.lit N2)) a').den ρ):=by simp [SV.ao,SV.cells]
            rw [eG,aD]at p1;simp only [Ck.den,p1,SK,List.take_zero,List.nil_append,Nat.zero_add,c1];rw [aD]at g2;have he:((SV.ao ρ cs).drop i0).take N2 |>.drop (aqW (sc.n.den ρ 0).toNat N2) |>.append ((SV.ao ρ cs).drop (i0+N2)) |> (· =(SV.ao ρ cs).drop (i0+aqW (sc.n.den ρ 0).toNat N2)):=by
             show List.drop _ (List.take N2 (List.drop i0 _))++List.drop (i0+N2) _=_;rw [←List.drop_drop,←List.drop_drop,List.drop_take];generalize (SV.ao ρ cs).drop i0=l;generalize aqW (sc.n.den ρ 0).toNat N2=m at GV;have:l.drop N2=(l.drop m).drop (N2 - m):=by rw [List.drop_drop,Nat.add_sub_cancel' GV]
             rw [this];exact List.take_append_drop (N2 - m) (l.drop m)
            have he:List.drop (aqW (sc.n.den ρ 0).toNat N2) (List.take N2 (List.drop i0 (SV.ao ρ cs)))++(SV.ao ρ cs).drop (i0+N2)=(SV.ao ρ cs).drop (i0+aqW (sc.n.den ρ 0).toNat N2):=he;rw [←List.append_assoc,List.append_assoc _ _ (List.drop (i0+N2) _),he];exact g2
          ·cases h
         ·cases h
        ·cases h
     ·cases h
    ·split at h
     ·rename_i r hr;split at h
      ·rename_i fZ;obtain⟨ht,hs,hw,HO,u_⟩:=fZ;rw [aqq]at h;obtain⟨aN,eT,rfl⟩:=h;simp only at bY cN;obtain⟨v1,v4⟩:=bw bY;obtain⟨v1,v3⟩:=bw v1;obtain⟨v1,v2⟩:=bw v1;have v3:=aZ v3;have v4:=aZ v4;simp only [E.den]at v3 v4;have XA:Reads hp ρ w S [r.j]:=fun j hj=>cN j (by simp at hj;simp [hj])
       obtain⟨_,s2,s3⟩:=fR (te:=te) jt (fun j hj=>cN j (aqv _ hj)) v2 v4;have Gr:0≤(pF sc.n r.p.len).den ρ 0:=by rw [m6];omega
       have Yu:(pF sc.n r.p.len).den ρ 0≤r.p.len.den ρ 0:=by rw [m6];omega
       have xH:((pF sc.n r.p.len).den ρ 0).toNat=aqW (sc.n.den ρ 0).toNat (r.p.len.den ρ 0).toNat:=by
        rw [m6];simp only [Nat.min_def,Int.min_def];split<;>split<;>omega
       obtain⟨a,c,hx,w',q1,q2,q3,q4⟩:=I_ (P:=P) hr XA v1 HO hw v3 Gr Yu (s2.trans hs.symm) eT;refine⟨w',.inl ?_,by rw [←ht];exact q4⟩;have ik:=ml (P:=P) tt.t ty te.t i hu hi a (r.p.len.den ρ 0).toNat c _ _ _ s3 (by rw [dS,s2,fy]) (fun ad had=>by
        have:=q1 ad had;have hct:=qU (ρ:=ρ) (sc.n.den ρ 0).toNat (aqW (sc.n.den ρ 0).toNat (r.p.len.den ρ 0).toNat) sc.ay (Nat.min_le_left _ _);rw [s2]at hct;rw [fy,hct,←xH];exact this) q3
       rw [hx];simp only [aqA,ik,aqu,aqH,SV.val,goInt];congr 3;omega
      ·cases h
     ·cases h
   ·cases h
  ·cases h
 ·cases h
end
end Go.RX
