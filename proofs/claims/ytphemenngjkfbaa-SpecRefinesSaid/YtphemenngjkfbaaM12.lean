/- Executor. -/
import Derived.Test.YtphemenngjkfbaaRxOe
open Go.Builtin renaming append_ → agR, zeroCells → agV
open Go.Result renaming andThen_ok → agG
open Go.Sem renaming run_bind → agK, run_pure → ag0
open Int renaming toNat → ag
open List renaming append_nil → agL, eq_nil_of_length_eq_zero → agU, getElem?_eq_getElem → ag6, getElem?_eq_none → ag7, map_cons → agW, mem_cons_of_mem → agF, range → ag5
open Option renaming map_eq_some_iff → agz
open Option.some renaming injEq → agy
namespace Go.RX
variable {P:Program} {w:World}
theorem Ce(t ti ty e:TypeId)(kt:IntKind)(i:TypeInfo)(z:Value)(ht:P.underlying t=some (.slice e))(c9:P.underlying ti=some (.int kt))(hi:P.info? e=some i)(hz:i.zero=some z)
  (k:IntKind) (m:Nat) (g o:Nat) (n cap:Nat) (fx:0<i.size) (hm:0<m) (hw:IntKind.i64.wrap (m:Int)=m) (hb: ¬(2^48:Int)<(m:Int)*i.bytes) (u5:n+m≤cap) {w':World}
  (lG:(storeCells ⟨g,o+n*i.size,none⟩ (agV z.cells m).toList).run P w= .ok () w'):
  (agR #[t,ti] ty #[.slice (some ⟨g,o,none⟩) n cap,.int k (m:Int)]).run P w= .ok (.slice (some ⟨g,o,none⟩) (n+m) cap) w':=by
 have h0: ¬(m:Int)<0:=by omega
 have eJ: ¬m*i.size=0:=Nat.ne_of_gt (Nat.mul_pos hm fx);have Ob: ¬(281474976710656:Int)<(m:Int)*i.bytes:=hb;simp [agR,run_underlying ht,run_underlying c9,sizeOf,typeInfo,zeroValue,hi,hz,asInt,asIntOf,hw,h0,Ob,u5,eJ,eZ,lG]
theorem Ap(t ti ty e:TypeId)(kt:IntKind)(i:TypeInfo)(z:Value)(ht:P.underlying t=some (.slice e))(c9:P.underlying ti=some (.int kt))(hi:P.info? e=some i)(hz:i.zero=some z)
  (k:IntKind) (m:Nat) (base:Option Addr) (n cap:Nat) (XJ:List Value) (hold:(Builtin.firstCells i.size n (.slice base n cap)).run P w.drew= .ok XJ.toArray w.drew)
  (fx:0<i.size) (hw:IntKind.i64.wrap (m:Int)=m) (hb: ¬(2^48:Int)<(m:Int)*i.bytes) (hg:cap<n+m) (hm:0<m) (Ri:((n+m:Nat):Int)≤9223372036854775807) (tZ:Builtin.nextslicecap (n+m) cap*i.bytes≤281474976710656):
  (agR #[t,ti] ty #[.slice base n cap,.int k (m:Int)]).run P w=
   .ok (.slice (some ⟨w.heap.size,0,none⟩) (n+m) (grownCap w (n+m) cap e))
    (w.drew.alloc (.cells (XJ.toArray++agV z.cells m++agV z.cells (grownCap w (n+m) cap e - (n+m))) e)):=by
 have h0: ¬(m:Int)<0:=by omega
 have eJ: ¬m*i.size=0:=Nat.ne_of_gt (Nat.mul_pos hm fx);have Ob: ¬(281474976710656:Int)<(m:Int)*i.bytes:=hb;have hn: ¬(n+m≤cap):=by omega
 have aaF: ¬(9223372036854775807<((n:Int)+(m:Int))):=by omega
 have aaG: ¬(281474976710656<Builtin.nextslicecap (n+m) cap*i.bytes):=by omega
 simp [agR,run_underlying ht,run_underlying c9,sizeOf,typeInfo,zeroValue,hi,hz,asInt,asIntOf,hw,h0,Ob,hn,aaF,aaG,eJ,Question.forced,hold,newRow,grownCap]
theorem qt(t ti ty e:TypeId)(kt:IntKind)(i:TypeInfo)(z:Value)(size bytes:Nat)(ht:P.underlying t=some (.slice e))(c9:P.underlying ti=some (.int kt))(hi:P.info? e=some i)(hz:i.zero=some z)
  (jP:i.size=size) (wq:i.bytes=bytes) (qF:z.cells.size=size) (fx:0<size)
  (v:Value) (n:Nat) (xs:List Value) (cU:w.iK e size v n xs)
  (k:IntKind) (m:Nat) (h1: ∀u∈(agV z.cells m).toList,u.oneCell'=true) (Ri:n+m≤140737488355328) (pR:(n+m)*bytes≤140737488355328):
  ∃v' w',(agR #[t,ti] ty #[v,.int k (m:Int)]).run P w= .ok v' w'∧w'.iK e size v' (n+m) (xs++(agV z.cells m).toList)∧w.grownBy w' v.ownBlock∧
   (v'.ownBlock=v.ownBlock∨v'.ownBlock=some w.heap.size):=by
 subst jP;subst wq;have hw:IntKind.i64.wrap (m:Int)=m:=CZ .i64 _ (by show(-9223372036854775808:Int)≤_;omega) (by show _≤(9223372036854775807:Int);omega);have hmb:m*i.bytes≤140737488355328:=by
  rw [Nat.add_mul]at pR;omega
 have hb: ¬(2^48:Int)<(m:Int)*i.bytes:=by
  rw [←Int.natCast_mul];have:(2^48:Int)=281474976710656:=by decide
  omega
 have uL:(agV z.cells m).toList.length=m*i.size:=by rw [Array.length_toList,size_zeroCells,qF]
 have hlen:(xs++(agV z.cells m).toList).length=(n+m)*i.size:=by rw [List.length_append,cU.1,uL,Nat.add_mul]
 by_cases F7:m=0
 ·subst F7;have Xy:(agV z.cells 0).toList=[]:=agU (by simpa using uL);have TR:IntKind.i64.wrap 0=0:=hw;refine⟨v,w,?_,by rw [Xy];simpa using cU,⟨rfl,rfl,rfl,Nat.le_refl _,fun _ _ _=>rfl⟩,.inl rfl⟩;rcases cU.2 with⟨rfl,rfl⟩ | ⟨g,o,cap,cur,rfl,_,FL,_⟩
  ·simp [agR,run_underlying ht,run_underlying c9,sizeOf,typeInfo,hi,asInt,asIntOf,TR]
  ·simp [agR,run_underlying ht,run_underlying c9,sizeOf,typeInfo,hi,asInt,asIntOf,TR,FL,storeCells]
 have hm:0<m:=by omega
 have grow: ∀(base:Option Addr) (cap:Nat),(Builtin.firstCells i.size n (.slice base n cap)).run P w.drew= .ok xs.toArray w.drew→cap<n+m→v= .slice base n cap→
   ∃v' w',(agR #[t,ti] ty #[v,.int k (m:Int)]).run P w= .ok v' w'∧w'.iK e i.size v' (n+m) (xs++(agV z.cells m).toList)∧w.grownBy w' v.ownBlock∧
   (v'.ownBlock=v.ownBlock∨v'.ownBlock=some w.heap.size):=by
  intro base cap hold hg hv;subst hv;have uJ:=grownCap_ge w (n+m) cap e;have N5:grownCap w (n+m) cap e≤maxLen:=grownCap_le_maxLen w (n+m) cap e (by unfold maxLen;omega);have hr:=Ap (P:=P) (w:=w) t ti ty e kt i z ht c9 hi hz k m base n cap xs hold fx hw hb hg hm (by omega) (growslice_fits (by omega) pR);refine⟨_,_,hr,⟨hlen,.inr ⟨w.heap.size,0,_,_,rfl,⟨e,_,heap_alloc_new w.drew _,.zero _⟩,uJ,N5,?_,?_⟩⟩,⟨rfl,rfl,rfl,by simp,fun k hk _=>heap_alloc_old w.drew _ hk⟩,Or.inr rfl⟩
  ·simp only [Array.size_append,List.size_toArray,size_zeroCells,qF,cU.1,←Nat.add_mul,Nat.zero_add];intro _;apply Nat.le_of_eq;congr 1;omega
  ·simp only [Array.toList_append,List.drop_zero];rw [←hlen];exact List.take_left
 rcases cU.2 with⟨rfl,rfl⟩ | ⟨g,o,cap,cur,rfl,⟨t',fz,hg,Ih⟩,FL,RI,l6,B0⟩
 ·have hx:xs=[]:=agU (by simpa using cU.1);subst hx;exact grow none 0 (by simp [Builtin.firstCells]) (by omega) rfl
 ·by_cases u5:n+m≤cap
  ·have l6:=l6 (by omega);have hmul:(n+m)*i.size≤cap*i.size:=Nat.mul_le_mul_right _ u5;rw [Nat.add_mul]at hmul;have tZ:o+n*i.size+(agV z.cells m).toList.length≤cur.size:=by omega
   have lG:=e_ (P:=P) g (o+n*i.size) t' fz (agV z.cells m).toList 0 cur w hg Ih (by simpa using tZ) h1;simp only [Nat.add_zero]at lG;have hr:=Ce (P:=P) (w:=w) t ti ty e kt i z ht c9 hi hz k m g o n cap fx hm hw hb u5 lG;refine⟨_,_,hr,⟨hlen,.inr ⟨g,o,cap,_,rfl,⟨t',fz,setRow_heap w g cur _ t' _ hg,by refine Eq.mp (congrArg (sW · fz) ?_) Ih;simp only [List.size_toArray,List.length_append,List.length_take,List.length_drop,Array.length_toList]at tZ ⊢;omega⟩,u5,RI,?_,?_⟩⟩,⟨rfl,rfl,rfl,by simp,fun k _ hk=>setRow_other w g k _ (fun e=>hk (by simp [Value.ownBlock,e]))⟩,Or.inl rfl⟩
   ·simp only [List.size_toArray,List.length_append,List.length_take,List.length_drop,Array.length_toList]at tZ ⊢;intro _;omega
   ·have:=qR cur.toList (agV z.cells m).toList o (n*i.size) ((n+m)*i.size) (by rw [Nat.add_mul];omega) (by rw [Nat.add_mul];simp only [Array.length_toList]at tZ ⊢;omega);simp only;rw [this,List.take_take,Nat.min_eq_left (by rw [Nat.add_mul];omega),B0,uL,←Nat.add_mul,List.drop_eq_nil_of_le (by rw [List.length_take];exact Nat.min_le_left _ _),agL]
  ·exact grow (some ⟨g,o,none⟩) cap (run_firstCells_some (P:=P) w.drew i.size n ⟨g,o,none⟩ n cap xs cU.1 (by simpa using jQ cU)) (by omega) rfl
section
variable {ρ:Env} {hp:List Ck} {S:Nat→Nat→Prop} {nb nv:Nat} {T:List TI}
theorem Cf(hT:bC P T=true){ts t':TypeId}{tt ti:TI}(fL:aW T ts=some tt)(XK:aW T t'=some ti){kt:IntKind}(ZK:ti.k= .int kt){x:SV}{m:E}{res:iC}(h:Ey T hp nv tt.k x m=some res)
  (dp:Reads hp ρ w S res.rd) (cu: ∀b∈res.vcs,b.prop ρ) (k:IntKind) (ty:TypeId):
  Did P ρ w hp S nb nv ((do pure (.value (←agR #[ts,t'] ty #[x.val ρ,.int k (m.den ρ 0)])):Sem Next).run P w) res:=by
 unfold Ey at h;split at h
 ·rename_i t v hk;split at h
  ·rename_i te j md t2 s n aA ik hj;split at h
   ·rename_i zc B9;split at h
    ·rename_i aV eU;split at h
     ·rename_i iH;obtain⟨rfl,hs,hw⟩:=iH;cases h;simp only at cu dp;obtain⟨rfl,pW⟩:=ay hT fL;obtain⟨rfl,c9⟩:=ay hT ik;obtain⟨rfl,htj⟩:=ay hT XK;have dg:=pW.kind;rw [hk]at dg;have hu:=bR dg;have XL:=htj.kind;rw [ZK]at XL;have huj:=jU XL;obtain⟨i,hi,fx,wq,z,hz,hc⟩:=c9.info;have qF:z.cells.size=te.size:=by rw [←Array.length_toList,←hc ρ,bw,c9.B6]
      obtain⟨v1,v3⟩:=bB cu;obtain⟨v1,v2⟩:=bB v1;have v1:=bg v1;have v2:=bg v2;simp only [E.den]at v1 v2;obtain⟨z1,z2,z3⟩:=fA (ρ:=ρ) B9;have Aq:(dV n m).den ρ 0=n.den ρ 0+m.den ρ 0:=bN ..;obtain⟨b1,b2⟩:=hJ (n:=dV n m) (bytes:=te.bytes) (v3 _ (by simp)) (by rw [Aq];omega);have m7:((dV n m).den ρ 0).toNat=(n.den ρ 0).toNat+(m.den ρ 0).toNat:=by rw [Aq];omega
      rw [m7]at b1 b2;obtain⟨hj0,Vk⟩:=dr hj;have Vk:v=md:=by simpa [Ck.nP] using Vk
      subst Vk;obtain⟨cU,kP⟩:=dp j (by simp) _ hj0;simp only [if_true]at cU;have Vc:m.den ρ 0=(((m.den ρ 0).toNat:Nat):Int):=by omega
      have U6:(agV z.cells (m.den ρ 0).toNat).toList=aI ρ (m.den ρ 0).toNat zc:=by
       rw [u_ B9,hc ρ];exact u0 _ _ (by omega)
      obtain⟨v',w',r1,r2,r3,r5⟩:=qt (P:=P) (w:=w) tt.t ti.t ty te.t kt i z te.size te.bytes hu huj hi hz fx wq qF z3 _ _ _ (by rw [←hs];exact cU) k (m.den ρ 0).toNat (by rw [U6];exact pX _ _) b2 b1;have fM:aI ρ ((dV n m).den ρ 0).toNat aV=aI ρ (n.den ρ 0).toNat aA++aI ρ (m.den ρ 0).toNat zc:=by
       rw [m7];obtain⟨c1,c2,c3⟩:=gb (ρ:=ρ) v1 v2 eU;rw [cK,gx];congr 1
       ·exact cV fun k hk=>by rw [c3,if_neg (by omega)]
       ·exact cV fun k hk=>by rw [c3,if_pos (by omega)];congr 1;omega
      refine⟨te.t,s,_,aV,v',w',fun k=>v'.ownBlock=some k,rfl,rfl,by rw [Vc];simp only [SV.val,agK,r1,agG,ag0],?_,⟨_,hj0,rfl⟩,⟨r3.os,r3.tape,r3.output,r3.size⟩,?_,⟨?_,fun k=>⟨fun h=>⟨h,.inl rfl⟩,fun h=>h.1⟩⟩,?_⟩
      ·rcases r2.2 with⟨rfl,_⟩ | ⟨g,o,cap,cur,rfl,_⟩<;>rfl
      ·intro k hk hn;exact r3.block k hk fun he=>hn ((kP k).2 ⟨he.symm,.inl rfl⟩)
      ·simp only [if_true];rw [fM,m7,hs,←U6];exact r2
      ·intro k hk;rcases r5 with h | h
       ·left;rw [kP k,←h];exact⟨hk,.inl rfl⟩
       ·right;rw [hk]at h;cases h;exact⟨Nat.le_refl _,iu r2 hk⟩
     ·cases h
    ·cases h
   ·cases h
  ·cases h
 ·rename_i t hk;split at h
  ·rename_i te ik;split at h
   ·rename_i zc B9;split at h
    ·rename_i hw;cases h;simp only at cu;obtain⟨rfl,pW⟩:=ay hT fL;obtain⟨rfl,c9⟩:=ay hT ik;obtain⟨rfl,htj⟩:=ay hT XK;have dg:=pW.kind;rw [hk]at dg;have hu:=bR dg;have XL:=htj.kind;rw [ZK]at XL;have huj:=jU XL;obtain⟨i,hi,fx,wq,z,hz,hc⟩:=c9.info;have qF:z.cells.size=te.size:=by rw [←Array.length_toList,←hc ρ,bw,c9.B6]
     obtain⟨v2,v3⟩:=bB cu;have v2:=bg v2;simp only [E.den]at v2;obtain⟨z1,z2,z3⟩:=fA (ρ:=ρ) B9;obtain⟨b1,b2⟩:=hJ (n:=m) (bytes:=te.bytes) (v3 _ (by simp)) v2;have Vc:m.den ρ 0=(((m.den ρ 0).toNat:Nat):Int):=by omega
     have U6:(agV z.cells (m.den ρ 0).toNat).toList=aI ρ (m.den ρ 0).toNat zc:=by
      rw [u_ B9,hc ρ];exact u0 _ _ (by omega)
     obtain⟨v',w',r1,r2,r3,r5⟩:=qt (P:=P) (w:=w) tt.t ti.t ty te.t kt i z te.size te.bytes hu huj hi hz fx wq qF z3 (.slice none 0 0) 0 [] (kO w te.t te.size) k (m.den ρ 0).toNat (by rw [U6];exact pX _ _) (by rw [Nat.zero_add];exact b2) (by rw [Nat.zero_add];exact b1);refine⟨te.t,te.size,_,zc,v',w',fun k=>v'.ownBlock=some k,rfl,rfl,by rw [Vc];simp only [SV.val,agK,r1,agG,ag0],?_,⟨r3.os,r3.tape,r3.output,r3.size⟩,fun k hk=>r3.block k hk (by simp [Value.ownBlock]),⟨?_,fun k=>⟨fun h=>⟨h,.inl rfl⟩,fun h=>h.1⟩⟩,?_⟩
     ·rcases r2.2 with⟨rfl,_⟩ | ⟨g,o,cap,cur,rfl,_⟩<;>rfl
     ·simp only [if_true];rw [←U6];simpa using r2
     ·intro k hk;rcases r5 with h | h
      ·rw [hk]at h;cases h
      ·rw [hk]at h;cases h;exact⟨Nat.le_refl _,iu r2 hk⟩
    ·cases h
   ·cases h
  ·cases h
 ·cases h
end
variable {P:Program} {w:World}
section
variable {ρ:Env} {hp:List Ck} {S:Nat→Nat→Prop} {nb nv:Nat} {T:List TI}
theorem Ge{b t:Nat}{cs:List Value}{S':Nat→Prop}(h:(ao b true cs).p w S')(hl:cs.length≤maxLen):w.iK t 1 (.slice (some ⟨b,0,none⟩) cs.length cs.length) cs.length cs:=by
 obtain⟨_,ty,fz,hb,hf⟩:=h;have:=hf rfl;subst this;refine⟨by omega,.inr ⟨b,0,cs.length,_,rfl,⟨ty,_,hb,.zero _⟩,Nat.le_refl _,hl,fun _=>by simp,by simp⟩⟩
theorem yT(hT:bC P T=true){ts:TypeId}{tt:TI}(fL:aW T ts=some tt){x y:SV}{res:iC}(h:wS T hp nv tt.k x y=some res)
  (dp:Reads hp ρ w S res.rd) (cu: ∀b∈res.vcs,b.prop ρ) (ty:TypeId):
  Did P ρ w hp S nb nv ((do pure (.value (←agR #[ts,ts] ty #[x.val ρ,y.val ρ])):Sem Next).run P w) res:=by
 unfold wS at h;split at h
 case h_2=>cases h
 rename_i t b ix s n m hk;split at h
 case h_2=>cases h
 rename_i te j b' cs q ik RW hix hn;split at h
 case h_2=>cases h
 rename_i ki kl a sc L9 jx;split at h
 case isFalse=>cases h
 rename_i hc;obtain⟨rfl,rfl,L_,hq,N4⟩:=hc;rw [agz]at h;obtain⟨aV,eU,rfl⟩:=h;simp only at cu dp;obtain⟨rfl,pW⟩:=ay hT fL;obtain⟨rfl,c9⟩:=ay hT ik;have dg:=pW.kind;rw [hk]at dg;have hu:=bR dg;obtain⟨i,hi,fx,wq,z,hz,hcz⟩:=c9.info;have qF:z.cells.size=te.size:=by rw [←Array.length_toList,←hcz ρ,bw,c9.B6]
 obtain⟨v1,v3⟩:=bB cu;obtain⟨v1,v2⟩:=bB v1;have v2:=bg v2;simp only [E.den]at v2;have XM:n.den ρ 0=(q:Int):=cM (ρ:=ρ) hn;have XO:ix.den ρ 0=((0:Nat):Int):=cM (ρ:=ρ) hix;obtain⟨_,s2,s3⟩:=gf (te:=te) jx (fun j hj=>dp j (agF _ hj)) v1 v2;have Aq:(dV (.lit (q:Int)) sc.n).den ρ 0=(q:Int)+sc.n.den ρ 0:=by rw [bN];rfl
 obtain⟨b1,b2⟩:=hJ (n:=dV (.lit (q:Int)) sc.n) (bytes:=te.bytes) (v3 _ (by simp)) (by rw [Aq];omega);have m7:((dV (.lit (q:Int)) sc.n).den ρ 0).toNat=q+(sc.n.den ρ 0).toNat:=by rw [Aq];omega
 rw [m7]at b1 b2;obtain⟨hj,ew⟩:=c_ RW;simp only [Ck.sN,beq_iff_eq]at ew;subst ew;have hS:=dp j (by simp) _ hj;have fM:SV.ar ρ cs=ak ki q (a.den ρ):=by
  have R5:=gZ (ρ:=ρ) L9;rw [N4,List.length_replicate,pK]at R5;exact R5
 have hlen:(SV.ar ρ cs).length=q:=by rw [fM,aH]
 have RZ:(ao (ρ.bv.getD b 0) true (SV.ar ρ cs)).p w (S j):=hS;have cU:=Ge (t:=te.t) RZ (by rw [hlen];unfold maxLen;omega);rw [hlen,fM]at cU;have kP: ∀k,S j k↔k=ρ.bv.getD b 0:=RZ.1;obtain⟨v',w',r1,r2,r3,r5⟩:=oB (P:=P) (w:=w) tt.t ty te.t i z te.size te.bytes hu hi hz fx wq qF (by omega) _ q _ (by rw [L_];exact cU)
  _ _ _ s3 (by rw [dI,s2]) (pX _ _) (by unfold maxLen;omega) b1
 have Iu:(SV.sl b ix 1 n n).val ρ= .slice (some ⟨ρ.bv.getD b 0,0,none⟩) q q:=by simp [SV.val,XM,XO]
 have Oc:aI ρ ((dV (.lit (q:Int)) sc.n).den ρ 0).toNat aV=ak ki q (a.den ρ)++aI ρ (sc.n.den ρ 0).toNat sc.aA:=by
  rw [m7];obtain⟨c1,c2,c3⟩:=gb (ρ:=ρ) (at_:= .lit (q:Int)) (by show(0:Int)≤(q:Int);omega) v2 eU;have hqd:((E.lit (q:Int)).den ρ 0).toNat=q:=by show ag (q:Int)=q;omega
  rw [hqd]at c3;rw [←eC ki q a,cK,gx];congr 1
  ·exact cV fun k hk=>by rw [c3,if_neg (by omega)]
  ·exact cV fun k hk=>by rw [c3,if_pos (by omega)];congr 1;omega
 refine⟨te.t,1,_,aV,v',w',fun k=>v'.ownBlock=some k,rfl,rfl,by rw [Iu];simp only [agK,r1,agG,ag0],?_,⟨_,hj,rfl⟩,⟨r3.os,r3.tape,r3.output,r3.size⟩,?_,⟨?_,fun k=>⟨fun h=>⟨h,.inl rfl⟩,fun h=>h.1⟩⟩,?_⟩
 ·rcases r2.2 with⟨rfl,_⟩ | ⟨g,o,cap,cur,rfl,_⟩<;>rfl
 ·intro k hk hn';refine r3.block k hk fun he=>hn' ((kP k).2 ?_)
  simp only [Value.ownBlock,agy]at he;exact he
 ·simp only [if_true];rw [Oc,m7,←L_];exact r2
 ·intro k hk;rcases r5 with h | h
  ·left;rw [hk]at h;simp only [Value.ownBlock,agy]at h;exact(kP k).2 h
  ·right;rw [hk]at h;cases h;exact⟨Nat.le_refl _,iu r2 hk⟩
theorem vd: ∀{cs:List SV} {l:List Nat},zf cs=some l→SV.ar ρ cs=l.map fun n=>(ρ.vv.getD n V1.nil).v
 | [],l,h=>by cases h;rfl
 | .vv i::r,l,h=>by
  simp only [zf,agz]at h;obtain⟨l',h',rfl⟩:=h;simp only [SV.ar,SV.cells,vd h',agW,List.singleton_append]
theorem s6{x:SV}{j:Nat}{l:List Nat}(h:vg hp x=some (j,l))(dp:Reads hp ρ w S [j]):
  ∃b c,x.val ρ= .slice (some ⟨b,0,none⟩) l.length c∧∀(k:Nat) u,(l.map fun n=>(ρ.vv.getD n V1.nil).v)[k]? =some u→w.cell? ((⟨b,0,none⟩:Addr).add k)=some u:=by
 unfold vg at h;split at h
 case h_2=>cases h
 rename_i b i s n m;split at h
 case h_2=>cases h
 rename_i j' b' wr cs q hf hi hn;split at h
 case h_2=>cases h
 rename_i l' hl;split at h
 case isFalse=>cases h
 rename_i hq;cases h;obtain⟨hj,ew⟩:=c_ hf;simp only [Ck.sN,beq_iff_eq]at ew;subst ew;have hS:(ao (ρ.bv.getD b 0) wr (SV.ar ρ cs)).p w (S j):=dp j (by simp) _ hj;obtain⟨_,ty,fz,hg,_⟩:=hS;have XM:=cM (ρ:=ρ) hn;have XO:=cM (ρ:=ρ) hi;refine⟨ρ.bv.getD b 0,(m.den ρ 0).toNat,by simp [SV.val,XM,XO,hq],fun k u hu=>?_⟩;rw [←vd hl]at hu;rw [eZ];simp only [World.cell?,hg];simpa using hu
theorem R6(l:List Nat):aI ρ l.length [⟨.Ii l,1,.lit 0⟩]=l.map fun n=>(ρ.vv.getD n V1.nil).v:=by
 unfold aI aT;simp only [agW,List.map_nil,List.flatMap_cons,List.flatMap_nil,agL,cb.cells,dC,List.range_one,agW,List.map_nil];rw [List.flatMap_def];apply List.ext_getElem?;intro k;have: ∀(g:Nat→Value) (n:Nat),(List.map (fun i=>[g i]) (ag5 n)).flatten=(ag5 n).map g:=by
  intro g n
  induction n with
  | zero=>rfl
  | succ n ih=>rw [List.range_succ,List.map_append,List.map_append,List.flatten_append,ih];simp
 rw [this fun i=>((l[i*1+0]?).elim V1.nil fun n=>ρ.vv.getD n V1.nil).v];rw [List.getElem?_map,List.getElem?_map];by_cases hk:k<l.length
 ·rw [List.getElem?_range hk,ag6 hk];simp [ag6 hk]
 ·rw [ag7 (by simp;omega),ag7 (by omega)];rfl
theorem yU(hT:bC P T=true){ts:TypeId}{tt:TI}(fL:aW T ts=some tt){x y:SV}{res:iC}(h:wT T hp nv tt.k x y=some res)
  (dp:Reads hp ρ w S res.rd) (ty:TypeId):
  Did P ρ w hp S nb nv ((do pure (.value (←agR #[ts,ts] ty #[x.val ρ,y.val ρ])):Sem Next).run P w) res:=by
 unfold wT at h;split at h
 case h_2=>cases h
 rename_i t b ix s n m hk;split at h
 case h_2=>cases h
 rename_i te j l j' l' ik hx hy;split at h
 case isFalse=>cases h
 rename_i hc;obtain⟨rfl,L_,eJ,ZF,WW⟩:=hc;cases h;simp only at dp;obtain⟨rfl,pW⟩:=ay hT fL;obtain⟨rfl,c9⟩:=ay hT ik;have dg:=pW.kind;rw [hk]at dg;have hu:=bR dg;obtain⟨i,hi,fx,wq,z,hz,hcz⟩:=c9.info;have qF:z.cells.size=te.size:=by rw [←Array.length_toList,←hcz ρ,bw,c9.B6]
 obtain⟨xb,xc,Iu,hxr⟩:=s6 hx (fun k hk=>dp k (by simp at hk;simp [hk]));obtain⟨yb,yc,hyv,hyr⟩:=s6 hy (fun k hk=>dp k (by simp at hk;simp [hk]));have hxc:xc=l.length:=by
  have:(SV.sl b ix s n n).val ρ= .slice (some ⟨ρ.bv.getD b 0,(ix.den ρ 0).toNat*s,none⟩) (n.den ρ 0).toNat (n.den ρ 0).toNat:=rfl;rw [this]at Iu;simp only [Value.slice.injEq]at Iu;omega
 subst hxc;obtain⟨v',w',r1,r2,r3,r5⟩:=qp (P:=P) (w:=w) tt.t ty te.t i z te.size te.bytes hu hi hz fx wq qF ⟨xb,0,none⟩ l.length _ (by rw [List.length_map,L_,Nat.mul_one]) hxr
  ⟨yb,0,none⟩ l'.length yc (by omega) _ (by rw [List.length_map,L_,Nat.mul_one]) hyr (by unfold maxLen;omega) ZF
 refine⟨te.t,1,_,_,v',w',fun k=>v'.ownBlock=some k,rfl,rfl,by rw [Iu,hyv];simp only [agK,r1,agG,ag0],?_,⟨r3.os,r3.tape,r3.output,r3.size⟩,fun k hk=>r3.block k hk (by simp),⟨?_,fun k=>⟨fun h=>⟨h,.inl rfl⟩,fun h=>h.1⟩⟩,?_⟩
 ·rcases r2.2 with⟨rfl,_⟩ | ⟨g,o,cap,cur,rfl,_⟩<;>rfl
 ·simp only [if_true];have e:((E.lit ((l.length+l'.length:Nat):Int)).den ρ 0).toNat=(l++l').length:=by
   show ag ((l.length+l'.length:Nat):Int)=_;rw [Int.toNat_natCast,List.length_append]
  rw [e,R6,List.map_append,List.length_append,←L_];exact r2
 ·intro k hk;rw [hk]at r5;cases r5;exact⟨Nat.le_refl _,iu r2 hk⟩
end
end Go.RX
