/- Executor. -/
import Derived.Test.YtllcdnkfbeokhaaGreatRxOe
open Go.Builtin renaming append_ → auP, zeroCells → auT
open Go.Result renaming andThen_ok → aut
open Go.Sem renaming run_bind → auC, run_pure → auI
open Int renaming toNat → ag, toNat_natCast → auD
open List renaming eq_nil_of_length_eq_zero → auH, getElem?_eq_getElem → auU, getElem?_eq_none → au0, length_append → aum, length_map → auJ, map_cons → auK, mem_cons_of_mem → auw
open Option renaming map_eq_some_iff → aus
open Option.some renaming injEq → auq
namespace Go.RX
variable {P:Program} {w:World}
theorem Ch(t ti ty e:TypeId)(kt:IntKind)(i:TypeInfo)(z:Value)(ht:P.underlying t=some (.slice e))(dc:P.underlying ti=some (.int kt))(hi:P.info? e=some i)(hz:i.zero=some z)
  (k:IntKind) (m:Nat) (g o:Nat) (n cap:Nat) (gx:0<i.size) (hm:0<m) (hw:IntKind.i64.wrap (m:Int)=m) (hb: ¬(2^48:Int)<(m:Int)*i.bytes) (vr:n+m≤cap) {w':World}
  (qH:(storeCells ⟨g,o+n*i.size,none⟩ (auT z.cells m).toList).run P w= .ok () w'):
  (auP #[t,ti] ty #[.slice (some ⟨g,o,none⟩) n cap,.int k (m:Int)]).run P w= .ok (.slice (some ⟨g,o,none⟩) (n+m) cap) w':=by
 have h0: ¬(m:Int)<0:=by omega
 have fy: ¬m*i.size=0:=Nat.ne_of_gt (Nat.mul_pos hm gx);have Ih: ¬(281474976710656:Int)<(m:Int)*i.bytes:=hb;simp [auP,run_underlying ht,run_underlying dc,sizeOf,typeInfo,zeroValue,hi,hz,asInt,asIntOf,hw,h0,Ih,vr,fy,fV,qH]
theorem Ak(t ti ty e:TypeId)(kt:IntKind)(i:TypeInfo)(z:Value)(ht:P.underlying t=some (.slice e))(dc:P.underlying ti=some (.int kt))(hi:P.info? e=some i)(hz:i.zero=some z)
  (k:IntKind) (m:Nat) (base:Option Addr) (n cap:Nat) (acS:List Value) (hold:(Builtin.firstCells i.size n (.slice base n cap)).run P w.drew= .ok acS.toArray w.drew)
  (gx:0<i.size) (hw:IntKind.i64.wrap (m:Int)=m) (hb: ¬(2^48:Int)<(m:Int)*i.bytes) (hg:cap<n+m) (hm:0<m) (TP:((n+m:Nat):Int)≤9223372036854775807) (rM:Builtin.nextslicecap (n+m) cap*i.bytes≤281474976710656):
  (auP #[t,ti] ty #[.slice base n cap,.int k (m:Int)]).run P w=
   .ok (.slice (some ⟨w.heap.size,0,none⟩) (n+m) (grownCap w (n+m) cap e))
    (w.drew.alloc (.cells (acS.toArray++auT z.cells m++auT z.cells (grownCap w (n+m) cap e - (n+m))) e)):=by
 have h0: ¬(m:Int)<0:=by omega
 have fy: ¬m*i.size=0:=Nat.ne_of_gt (Nat.mul_pos hm gx);have Ih: ¬(281474976710656:Int)<(m:Int)*i.bytes:=hb;have hn: ¬(n+m≤cap):=by omega
 have ahg: ¬(9223372036854775807<((n:Int)+(m:Int))):=by omega
 have ahh: ¬(281474976710656<Builtin.nextslicecap (n+m) cap*i.bytes):=by omega
 simp [auP,run_underlying ht,run_underlying dc,sizeOf,typeInfo,zeroValue,hi,hz,asInt,asIntOf,hw,h0,Ih,hn,ahg,ahh,fy,Question.forced,hold,newRow,grownCap]
theorem qL(t ti ty e:TypeId)(kt:IntKind)(i:TypeInfo)(z:Value)(size bytes:Nat)(ht:P.underlying t=some (.slice e))(dc:P.underlying ti=some (.int kt))(hi:P.info? e=some i)(hz:i.zero=some z)
  (eZ:i.size=size) (wG:i.bytes=bytes) (qJ:z.cells.size=size) (gx:0<size)
  (v:Value) (n:Nat) (xs:List Value) (du:w.jF e size v n xs)
  (k:IntKind) (m:Nat) (h1: ∀u∈(auT z.cells m).toList,u.oneCell'=true) (TP:n+m≤140737488355328) (p9:(n+m)*bytes≤140737488355328):
  ∃v' w',(auP #[t,ti] ty #[v,.int k (m:Int)]).run P w= .ok v' w'∧w'.jF e size v' (n+m) (xs++(auT z.cells m).toList)∧w.grownBy w' v.ownBlock∧
   (v'.ownBlock=v.ownBlock∨v'.ownBlock=some w.heap.size):=by
 subst eZ;subst wG;have hw:IntKind.i64.wrap (m:Int)=m:=wQ .i64 _ (by show(-9223372036854775808:Int)≤_;omega) (by show _≤(9223372036854775807:Int);omega);have hmb:m*i.bytes≤140737488355328:=by
  rw [Nat.add_mul]at p9;omega
 have hb: ¬(2^48:Int)<(m:Int)*i.bytes:=by
  rw [←Int.natCast_mul];have:(2^48:Int)=281474976710656:=by decide
  omega
 have uP:(auT z.cells m).toList.length=m*i.size:=by rw [Array.length_toList,size_zeroCells,qJ]
 have hlen:(xs++(auT z.cells m).toList).length=(n+m)*i.size:=by rw [aum,du.1,uP,Nat.add_mul]
 by_cases IN:m=0
 ·subst IN;have hz0:(auT z.cells 0).toList=[]:=auH (by simpa using uP);have PV:IntKind.i64.wrap 0=0:=hw;refine⟨v,w,?_,by rw [hz0];simpa using du,⟨rfl,rfl,rfl,Nat.le_refl _,fun _ _ _=>rfl⟩,.inl rfl⟩;rcases du.2 with⟨rfl,rfl⟩ | ⟨g,o,cap,cur,rfl,_,Fp,_⟩
  ·simp [auP,run_underlying ht,run_underlying dc,sizeOf,typeInfo,hi,asInt,asIntOf,PV]
  ·simp [auP,run_underlying ht,run_underlying dc,sizeOf,typeInfo,hi,asInt,asIntOf,PV,Fp,storeCells]
 have hm:0<m:=by omega
 have grow: ∀(base:Option Addr) (cap:Nat),(Builtin.firstCells i.size n (.slice base n cap)).run P w.drew= .ok xs.toArray w.drew→cap<n+m→v= .slice base n cap→
   ∃v' w',(auP #[t,ti] ty #[v,.int k (m:Int)]).run P w= .ok v' w'∧w'.jF e i.size v' (n+m) (xs++(auT z.cells m).toList)∧w.grownBy w' v.ownBlock∧
   (v'.ownBlock=v.ownBlock∨v'.ownBlock=some w.heap.size):=by
  intro base cap hold hg hv;subst hv;have mn:=grownCap_ge w (n+m) cap e;have P6:grownCap w (n+m) cap e≤maxLen:=grownCap_le_maxLen w (n+m) cap e (by unfold maxLen;omega);have hr:=Ak (P:=P) (w:=w) t ti ty e kt i z ht dc hi hz k m base n cap xs hold gx hw hb hg hm (by omega) (growslice_fits (by omega) p9);refine⟨_,_,hr,⟨hlen,.inr ⟨w.heap.size,0,_,_,rfl,⟨e,_,heap_alloc_new w.drew _,.zero _⟩,mn,P6,?_,?_⟩⟩,⟨rfl,rfl,rfl,by simp,fun k hk _=>heap_alloc_old w.drew _ hk⟩,Or.inr rfl⟩
  ·simp only [Array.size_append,List.size_toArray,size_zeroCells,qJ,du.1,←Nat.add_mul,Nat.zero_add];intro _;apply Nat.le_of_eq;congr 1;omega
  ·simp only [Array.toList_append,List.drop_zero];rw [←hlen];exact List.take_left
 rcases du.2 with⟨rfl,rfl⟩ | ⟨g,o,cap,cur,rfl,⟨t',fz,hg,ID⟩,Fp,Ur,nU,CO⟩
 ·have hx:xs=[]:=auH (by simpa using du.1);subst hx;exact grow none 0 (by simp [Builtin.firstCells]) (by omega) rfl
 ·by_cases vr:n+m≤cap
  ·have nU:=nU (by omega);have hmul:(n+m)*i.size≤cap*i.size:=Nat.mul_le_mul_right _ vr;rw [Nat.add_mul]at hmul;have rM:o+n*i.size+(auT z.cells m).toList.length≤cur.size:=by omega
   have qH:=fX (P:=P) g (o+n*i.size) t' fz (auT z.cells m).toList 0 cur w hg ID (by simpa using rM) h1;simp only [Nat.add_zero]at qH;have hr:=Ch (P:=P) (w:=w) t ti ty e kt i z ht dc hi hz k m g o n cap gx hm hw hb vr qH;refine⟨_,_,hr,⟨hlen,.inr ⟨g,o,cap,_,rfl,⟨t',fz,setRow_heap w g cur _ t' _ hg,by refine Eq.mp (congrArg (ru · fz) ?_) ID;simp only [List.size_toArray,aum,List.length_take,List.length_drop,Array.length_toList]at rM ⊢;omega⟩,vr,Ur,?_,?_⟩⟩,⟨rfl,rfl,rfl,by simp,fun k _ hk=>setRow_other w g k _ (fun e=>hk (by simp [Value.ownBlock,e]))⟩,Or.inl rfl⟩
   ·simp only [List.size_toArray,aum,List.length_take,List.length_drop,Array.length_toList]at rM ⊢;intro _;omega
   ·have:=rG cur.toList (auT z.cells m).toList o (n*i.size) ((n+m)*i.size) (by rw [Nat.add_mul];omega) (by rw [Nat.add_mul];simp only [Array.length_toList]at rM ⊢;omega);simp only;rw [this,List.take_take,Nat.min_eq_left (by rw [Nat.add_mul];omega),CO,uP,←Nat.add_mul,List.drop_eq_nil_of_le (by rw [List.length_take];exact Nat.min_le_left _ _),List.append_nil]
  ·exact grow (some ⟨g,o,none⟩) cap (run_firstCells_some (P:=P) w.drew i.size n ⟨g,o,none⟩ n cap xs du.1 (by simpa using kH du)) (by omega) rfl
section
variable {ρ:Env} {hp:List Ck} {S:Nat→Nat→Prop} {nb nv:Nat} {T:List TI}
theorem Ci(hT:bB P T=true){ts t':TypeId}{tt ti:TI}(gD:aU T ts=some tt)(acT:aU T t'=some ti){kt:IntKind}(hkt:ti.k= .int kt){x:SV}{m:E}{res:iC}(h:DR T hp nv tt.k x m=some res)
  (db:Reads hp ρ w S res.rd) (cd: ∀b∈res.vcs,b.prop ρ) (k:IntKind) (ty:TypeId):
  Did P ρ w hp S nb nv ((do pure (.value (←auP #[ts,t'] ty #[x.val ρ,.int k (m.den ρ 0)])):Sem Next).run P w) res:=by
 unfold DR at h;split at h
 ·rename_i t v hk;split at h
  ·rename_i te j md t2 s n aA jf hj;split at h
   ·rename_i zc Ab;split at h
    ·rename_i aS fu;split at h
     ·rename_i gJ;obtain⟨rfl,hs,hw⟩:=gJ;cases h;simp only at cd db;obtain⟨rfl,qg⟩:=aC hT gD;obtain⟨rfl,dc⟩:=aC hT jf;obtain⟨rfl,htj⟩:=aC hT acT;have dE:=qg.kind;rw [hk]at dE;have hu:=bK dE;have hkj:=htj.kind;rw [hkt]at hkj;have huj:=kK hkj;obtain⟨i,hi,gx,wG,z,hz,hc⟩:=dc.info;have qJ:z.cells.size=te.size:=by rw [←Array.length_toList,←hc ρ,bu,dc.Cf]
      obtain⟨v1,v3⟩:=bA cd;obtain⟨v1,v2⟩:=bA v1;have v1:=bf v1;have v2:=bf v2;simp only [E.den]at v1 v2;obtain⟨z1,z2,z3⟩:=gE (ρ:=ρ) Ab;have wV:(dP n m).den ρ 0=n.den ρ 0+m.den ρ 0:=bG ..;obtain⟨b1,b2⟩:=ji (n:=dP n m) (bytes:=te.bytes) (v3 _ (by simp)) (by rw [wV];omega);have nB:((dP n m).den ρ 0).toNat=(n.den ρ 0).toNat+(m.den ρ 0).toNat:=by rw [wV];omega
      rw [nB]at b1 b2;obtain⟨hj0,hov⟩:=cZ hj;have hov:v=md:=by simpa [Ck.mI] using hov
      subst hov;obtain⟨du,mw⟩:=db j (by simp) _ hj0;simp only [if_true]at du;have YL:m.den ρ 0=(((m.den ρ 0).toNat:Nat):Int):=by omega
      have YE:(auT z.cells (m.den ρ 0).toNat).toList=aG ρ (m.den ρ 0).toNat zc:=by
       rw [vu Ab,hc ρ];exact vo _ _ (by omega)
      obtain⟨v',w',r1,r2,r3,r5⟩:=qL (P:=P) (w:=w) tt.t ti.t ty te.t kt i z te.size te.bytes hu huj hi hz gx wG qJ z3 _ _ _ (by rw [←hs];exact du) k (m.den ρ 0).toNat (by rw [YE];exact qh _ _) b2 b1;have gU:aG ρ ((dP n m).den ρ 0).toNat aS=aG ρ (n.den ρ 0).toNat aA++aG ρ (m.den ρ 0).toNat zc:=by
       rw [nB];obtain⟨c1,c2,c3⟩:=ij (ρ:=ρ) v1 v2 fu;rw [cT,iE];congr 1
       ·exact dr fun k hk=>by rw [c3,if_neg (by omega)]
       ·exact dr fun k hk=>by rw [c3,if_pos (by omega)];congr 1;omega
      refine⟨te.t,s,_,aS,v',w',fun k=>v'.ownBlock=some k,rfl,rfl,by rw [YL];simp only [SV.val,auC,r1,aut,auI],?_,⟨_,hj0,rfl⟩,⟨r3.os,r3.tape,r3.output,r3.size⟩,?_,⟨?_,fun k=>⟨fun h=>⟨h,.inl rfl⟩,fun h=>h.1⟩⟩,?_⟩
      ·rcases r2.2 with⟨rfl,_⟩ | ⟨g,o,cap,cur,rfl,_⟩<;>rfl
      ·intro k hk hn;exact r3.block k hk fun he=>hn ((mw k).2 ⟨he.symm,.inl rfl⟩)
      ·simp only [if_true];rw [gU,nB,hs,←YE];exact r2
      ·intro k hk;rcases r5 with h | h
       ·left;rw [mw k,←h];exact⟨hk,.inl rfl⟩
       ·right;rw [hk]at h;cases h;exact⟨Nat.le_refl _,jr r2 hk⟩
     ·cases h
    ·cases h
   ·cases h
  ·cases h
 ·rename_i t hk;split at h
  ·rename_i te jf;split at h
   ·rename_i zc Ab;split at h
    ·rename_i hw;cases h;simp only at cd;obtain⟨rfl,qg⟩:=aC hT gD;obtain⟨rfl,dc⟩:=aC hT jf;obtain⟨rfl,htj⟩:=aC hT acT;have dE:=qg.kind;rw [hk]at dE;have hu:=bK dE;have hkj:=htj.kind;rw [hkt]at hkj;have huj:=kK hkj;obtain⟨i,hi,gx,wG,z,hz,hc⟩:=dc.info;have qJ:z.cells.size=te.size:=by rw [←Array.length_toList,←hc ρ,bu,dc.Cf]
     obtain⟨v2,v3⟩:=bA cd;have v2:=bf v2;simp only [E.den]at v2;obtain⟨z1,z2,z3⟩:=gE (ρ:=ρ) Ab;obtain⟨b1,b2⟩:=ji (n:=m) (bytes:=te.bytes) (v3 _ (by simp)) v2;have YL:m.den ρ 0=(((m.den ρ 0).toNat:Nat):Int):=by omega
     have YE:(auT z.cells (m.den ρ 0).toNat).toList=aG ρ (m.den ρ 0).toNat zc:=by
      rw [vu Ab,hc ρ];exact vo _ _ (by omega)
     obtain⟨v',w',r1,r2,r3,r5⟩:=qL (P:=P) (w:=w) tt.t ti.t ty te.t kt i z te.size te.bytes hu huj hi hz gx wG qJ z3 (.slice none 0 0) 0 [] (np w te.t te.size) k (m.den ρ 0).toNat (by rw [YE];exact qh _ _) (by rw [Nat.zero_add];exact b2) (by rw [Nat.zero_add];exact b1);refine⟨te.t,te.size,_,zc,v',w',fun k=>v'.ownBlock=some k,rfl,rfl,by rw [YL];simp only [SV.val,auC,r1,aut,auI],?_,⟨r3.os,r3.tape,r3.output,r3.size⟩,fun k hk=>r3.block k hk (by simp [Value.ownBlock]),⟨?_,fun k=>⟨fun h=>⟨h,.inl rfl⟩,fun h=>h.1⟩⟩,?_⟩
     ·rcases r2.2 with⟨rfl,_⟩ | ⟨g,o,cap,cur,rfl,_⟩<;>rfl
     ·simp only [if_true];rw [←YE];simpa using r2
     ·intro k hk;rcases r5 with h | h
      ·rw [hk]at h;cases h
      ·rw [hk]at h;cases h;exact⟨Nat.le_refl _,jr r2 hk⟩
    ·cases h
   ·cases h
  ·cases h
 ·cases h
end
variable {P:Program} {w:World}
section
variable {ρ:Env} {hp:List Ck} {S:Nat→Nat→Prop} {nb nv:Nat} {T:List TI}
theorem F4{b t:Nat}{cs:List Value}{S':Nat→Prop}(h:(ak b true cs).p w S')(hl:cs.length≤maxLen):w.jF t 1 (.slice (some ⟨b,0,none⟩) cs.length cs.length) cs.length cs:=by
 obtain⟨_,ty,fz,hb,hf⟩:=h;have:=hf rfl;subst this;refine⟨by omega,.inr ⟨b,0,cs.length,_,rfl,⟨ty,_,hb,.zero _⟩,Nat.le_refl _,hl,fun _=>by simp,by simp⟩⟩
theorem yV(hT:bB P T=true){ts:TypeId}{tt:TI}(gD:aU T ts=some tt){x y:SV}{res:iC}(h:wW T hp nv tt.k x y=some res)
  (db:Reads hp ρ w S res.rd) (cd: ∀b∈res.vcs,b.prop ρ) (ty:TypeId):
  Did P ρ w hp S nb nv ((do pure (.value (←auP #[ts,ts] ty #[x.val ρ,y.val ρ])):Sem Next).run P w) res:=by
 unfold wW at h;split at h
 case h_2=>cases h
 rename_i t b ix s n m hk;split at h
 case h_2=>cases h
 rename_i te j b' cs q jf UE hix hn;split at h
 case h_2=>cases h
 rename_i ki kl a sc ML jM;split at h
 case isFalse=>cases h
 rename_i hc;obtain⟨rfl,rfl,MN,hq,P5⟩:=hc;rw [aus]at h;obtain⟨aS,fu,rfl⟩:=h;simp only at cd db;obtain⟨rfl,qg⟩:=aC hT gD;obtain⟨rfl,dc⟩:=aC hT jf;have dE:=qg.kind;rw [hk]at dE;have hu:=bK dE;obtain⟨i,hi,gx,wG,z,hz,hcz⟩:=dc.info;have qJ:z.cells.size=te.size:=by rw [←Array.length_toList,←hcz ρ,bu,dc.Cf]
 obtain⟨v1,v3⟩:=bA cd;obtain⟨v1,v2⟩:=bA v1;have v2:=bf v2;simp only [E.den]at v2;have hnn:n.den ρ 0=(q:Int):=bZ (ρ:=ρ) hn;have hii:ix.den ρ 0=((0:Nat):Int):=bZ (ρ:=ρ) hix;obtain⟨_,s2,s3⟩:=gG (te:=te) jM (fun j hj=>db j (auw _ hj)) v1 v2;have wV:(dP (.lit (q:Int)) sc.n).den ρ 0=(q:Int)+sc.n.den ρ 0:=by rw [bG];rfl
 obtain⟨b1,b2⟩:=ji (n:=dP (.lit (q:Int)) sc.n) (bytes:=te.bytes) (v3 _ (by simp)) (by rw [wV];omega);have nB:((dP (.lit (q:Int)) sc.n).den ρ 0).toNat=q+(sc.n.den ρ 0).toNat:=by rw [wV];omega
 rw [nB]at b1 b2;obtain⟨hj,dH⟩:=dD UE;simp only [Ck.s5,beq_iff_eq]at dH;subst dH;have hS:=db j (by simp) _ hj;have gU:SV.ao ρ cs=aj ki q (a.den ρ):=by
  have UH:=ia (ρ:=ρ) ML;rw [P5,List.length_replicate,pZ]at UH;exact UH
 have hlen:(SV.ao ρ cs).length=q:=by rw [gU,aE]
 have MI:(ak (ρ.bv.getD b 0) true (SV.ao ρ cs)).p w (S j):=hS;have du:=F4 (t:=te.t) MI (by rw [hlen];unfold maxLen;omega);rw [hlen,gU]at du;have mw: ∀k,S j k↔k=ρ.bv.getD b 0:=MI.1;obtain⟨v',w',r1,r2,r3,r5⟩:=oR (P:=P) (w:=w) tt.t ty te.t i z te.size te.bytes hu hi hz gx wG qJ (by omega) _ q _ (by rw [MN];exact du)
  _ _ _ s3 (by rw [eh,s2]) (qh _ _) (by unfold maxLen;omega) b1
 have IQ:(SV.sl b ix 1 n n).val ρ= .slice (some ⟨ρ.bv.getD b 0,0,none⟩) q q:=by simp [SV.val,hnn,hii]
 have P8:aG ρ ((dP (.lit (q:Int)) sc.n).den ρ 0).toNat aS=aj ki q (a.den ρ)++aG ρ (sc.n.den ρ 0).toNat sc.aA:=by
  rw [nB];obtain⟨c1,c2,c3⟩:=ij (ρ:=ρ) (at_:= .lit (q:Int)) (by show(0:Int)≤(q:Int);omega) v2 fu;have hqd:((E.lit (q:Int)).den ρ 0).toNat=q:=by show ag (q:Int)=q;omega
  rw [hqd]at c3;rw [←ei ki q a,cT,iE];congr 1
  ·exact dr fun k hk=>by rw [c3,if_neg (by omega)]
  ·exact dr fun k hk=>by rw [c3,if_pos (by omega)];congr 1;omega
 refine⟨te.t,1,_,aS,v',w',fun k=>v'.ownBlock=some k,rfl,rfl,by rw [IQ];simp only [auC,r1,aut,auI],?_,⟨_,hj,rfl⟩,⟨r3.os,r3.tape,r3.output,r3.size⟩,?_,⟨?_,fun k=>⟨fun h=>⟨h,.inl rfl⟩,fun h=>h.1⟩⟩,?_⟩
 ·rcases r2.2 with⟨rfl,_⟩ | ⟨g,o,cap,cur,rfl,_⟩<;>rfl
 ·intro k hk UI;refine r3.block k hk fun he=>UI ((mw k).2 ?_)
  simp only [Value.ownBlock,auq]at he;exact he
 ·simp only [if_true];rw [P8,nB,←MN];exact r2
 ·intro k hk;rcases r5 with h | h
  ·left;rw [hk]at h;simp only [Value.ownBlock,auq]at h;exact(mw k).2 h
  ·right;rw [hk]at h;cases h;exact⟨Nat.le_refl _,jr r2 hk⟩
theorem vw: ∀{cs:List SV} {l:List Nat},zm cs=some l→SV.ao ρ cs=l.map fun n=>(ρ.vv.getD n V1.nil).v
 | [],l,h=>by cases h;rfl
 | .vv i::r,l,h=>by
  simp only [zm,aus]at h;obtain⟨l',h',rfl⟩:=h;simp only [SV.ao,SV.cells,vw h',auK,List.singleton_append]
theorem tz{x:SV}{j:Nat}{l:List Nat}(h:vz hp x=some (j,l))(db:Reads hp ρ w S [j]):
  ∃b c,x.val ρ= .slice (some ⟨b,0,none⟩) l.length c∧∀(k:Nat) u,(l.map fun n=>(ρ.vv.getD n V1.nil).v)[k]? =some u→w.cell? ((⟨b,0,none⟩:Addr).add k)=some u:=by
 unfold vz at h;split at h
 case h_2=>cases h
 rename_i b i s n m;split at h
 case h_2=>cases h
 rename_i j' b' wr cs q hf hi hn;split at h
 case h_2=>cases h
 rename_i l' hl;split at h
 case isFalse=>cases h
 rename_i hq;cases h;obtain⟨hj,dH⟩:=dD hf;simp only [Ck.s5,beq_iff_eq]at dH;subst dH;have hS:(ak (ρ.bv.getD b 0) wr (SV.ao ρ cs)).p w (S j):=db j (by simp) _ hj;obtain⟨_,ty,fz,hg,_⟩:=hS;have hnn:=bZ (ρ:=ρ) hn;have hii:=bZ (ρ:=ρ) hi;refine⟨ρ.bv.getD b 0,(m.den ρ 0).toNat,by simp [SV.val,hnn,hii,hq],fun k u hu=>?_⟩;rw [←vw hl]at hu;rw [fV];simp only [World.cell?,hg];simpa using hu
theorem UJ(l:List Nat):aG ρ l.length [⟨.Ic l,1,.lit 0⟩]=l.map fun n=>(ρ.vv.getD n V1.nil).v:=by
 unfold aG aM;simp only [auK,List.map_nil,List.flatMap_cons,List.flatMap_nil,List.append_nil,bP.cells,eA,List.range_one,auK,List.map_nil];rw [List.flatMap_def];apply List.ext_getElem?;intro k;have: ∀(g:Nat→Value) (n:Nat),(List.map (fun i=>[g i]) (List.range n)).flatten=(List.range n).map g:=by
  intro g n
  induction n with
  | zero=>rfl
  | succ n ih=>rw [List.range_succ,List.map_append,List.map_append,List.flatten_append,ih];simp
 rw [this fun i=>((l[i*1+0]?).elim V1.nil fun n=>ρ.vv.getD n V1.nil).v];rw [List.getElem?_map,List.getElem?_map];by_cases hk:k<l.length
 ·rw [List.getElem?_range hk,auU hk];simp [auU hk]
 ·rw [au0 (by simp;omega),au0 (by omega)];rfl
theorem yW(hT:bB P T=true){ts:TypeId}{tt:TI}(gD:aU T ts=some tt){x y:SV}{res:iC}(h:wX T hp nv tt.k x y=some res)
  (db:Reads hp ρ w S res.rd) (ty:TypeId):
  Did P ρ w hp S nb nv ((do pure (.value (←auP #[ts,ts] ty #[x.val ρ,y.val ρ])):Sem Next).run P w) res:=by
 unfold wX at h;split at h
 case h_2=>cases h
 rename_i t b ix s n m hk;split at h
 case h_2=>cases h
 rename_i te j l j' l' jf hx hy;split at h
 case isFalse=>cases h
 rename_i hc;obtain⟨rfl,MN,fy,zl,DO⟩:=hc;cases h;simp only at db;obtain⟨rfl,qg⟩:=aC hT gD;obtain⟨rfl,dc⟩:=aC hT jf;have dE:=qg.kind;rw [hk]at dE;have hu:=bK dE;obtain⟨i,hi,gx,wG,z,hz,hcz⟩:=dc.info;have qJ:z.cells.size=te.size:=by rw [←Array.length_toList,←hcz ρ,bu,dc.Cf]
 obtain⟨xb,xc,IQ,hxr⟩:=tz hx (fun k hk=>db k (by simp at hk;simp [hk]));obtain⟨yb,yc,hyv,hyr⟩:=tz hy (fun k hk=>db k (by simp at hk;simp [hk]));have hxc:xc=l.length:=by
  have:(SV.sl b ix s n n).val ρ= .slice (some ⟨ρ.bv.getD b 0,(ix.den ρ 0).toNat*s,none⟩) (n.den ρ 0).toNat (n.den ρ 0).toNat:=rfl;rw [this]at IQ;simp only [Value.slice.injEq]at IQ;omega
 subst hxc;obtain⟨v',w',r1,r2,r3,r5⟩:=qK (P:=P) (w:=w) tt.t ty te.t i z te.size te.bytes hu hi hz gx wG qJ ⟨xb,0,none⟩ l.length _ (by rw [auJ,MN,Nat.mul_one]) hxr
  ⟨yb,0,none⟩ l'.length yc (by omega) _ (by rw [auJ,MN,Nat.mul_one]) hyr (by unfold maxLen;omega) zl
 refine⟨te.t,1,_,_,v',w',fun k=>v'.ownBlock=some k,rfl,rfl,by rw [IQ,hyv];simp only [auC,r1,aut,auI],?_,⟨r3.os,r3.tape,r3.output,r3.size⟩,fun k hk=>r3.block k hk (by simp),⟨?_,fun k=>⟨fun h=>⟨h,.inl rfl⟩,fun h=>h.1⟩⟩,?_⟩
 ·rcases r2.2 with⟨rfl,_⟩ | ⟨g,o,cap,cur,rfl,_⟩<;>rfl
 ·simp only [if_true];have e:((E.lit ((l.length+l'.length:Nat):Int)).den ρ 0).toNat=(l++l').length:=by
   show ag ((l.length+l'.length:Nat):Int)=_;rw [auD,aum]
  rw [e,UJ,List.map_append,aum,←MN];exact r2
 ·intro k hk;rw [hk]at r5;cases r5;exact⟨Nat.le_refl _,jr r2 hk⟩
end
end Go.RX
