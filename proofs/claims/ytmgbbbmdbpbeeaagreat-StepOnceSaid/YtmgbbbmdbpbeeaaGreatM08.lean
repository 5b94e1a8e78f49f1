/- Executor. -/
import Derived.Test.YtmgbbbmdbpbeeaaGreatM07
open Array renaming length_toList → ajv
open Bool renaming and_eq_true → ai
open Go.Builtin renaming append_ → ajc, zeroCells → ajg
open Go.Result renaming andThen_ok → aiU
open Go.Sem renaming run_bind → ai2, run_pure → ajd
open Int renaming toNat → ag, toNat_natCast → aiX
open List renaming eq_nil_of_length_eq_zero → ai6, getElem?_eq_getElem → ajk, getElem?_eq_none → ajz, map_cons → ajb, mem_cons_of_mem → aiV, range → ajw
open List.cons renaming injEq → ai5
open Option renaming map_eq_some_iff → aiO
open Option.some renaming injEq → aiP
namespace Go.RX
section
variable {P:Program} {ρ:Env} {w:World} {look:Nat→Option SV} {bH:Operand→Value} {hp:List Ck} {S:Nat→Nat→Prop} {nb nv:Nat} {T:List TI}
theorem KK{a:E}{i:Nat}{x:Int}(h:Nd a i=some x):a.den ρ i=x:=by
 unfold Nd at h;split at h
 ·rename_i n hn;cases h;have:=dY ρ a (.lit i) 0;rw [hn]at this;simp only [E.den,aiX]at this;exact this.symm
 ·cases h
theorem r6{a:E}: ∀{n:Nat} {l:List Int},uG a n=some l→l=(ajw n).map (a.den ρ)
 | 0,l,h=>by simp [uG]at h;subst h;rfl
 | n+1,l,h=>by
  unfold uG at h;split at h
  ·rename_i l' x h1 h2;cases h;rw [List.range_succ,List.map_append,←r6 h1];simp [KK h2]
  ·cases h
theorem qJ(n:Nat)(a:E):((QM n a).den ρ 0)=(bG ((ajw n).map (a.den ρ)):Nat):=by
 unfold QM;split
 ·rename_i l h;rw [←r6 h];rfl
 ·rfl
theorem pT: ∀{l:List gj} {kl:List IntKind},r7 l=some kl→l=kl.map some
 | [],kl,h=>by simp [r7]at h;subst h;rfl
 | some k::r,kl,h=>by
  simp only [r7,aiO]at h;obtain⟨x,hx,rfl⟩:=h;rw [pT hx];rfl
 | none::r,kl,h=>by simp [r7]at h
theorem rz(hT:bD P T=true){t:Nat}{tk:TI}(ht:aU T t=some tk){kl:List IntKind}{ka:Bool}(h:pU tk=some (kl,ka)):Cg P t kl ka:=by
 obtain⟨rfl,cK⟩:=aE hT ht;have cO:=cK.kind;unfold pU at h;split at h
 ·rename_i k hk;cases h;rw [hk]at cO;have hu:=jr cO;exact⟨by simp [eX,hu],fun _=>⟨k,rfl,hu⟩,fun h=>(by cases h)⟩
 ·rename_i fs hk;split at h
  ·cases h
  ·rename_i dI;rw [aiO]at h;obtain⟨l,hl,he⟩:=h;cases he;rw [hk]at cO;obtain⟨fa,hu,_⟩:=mF cO;rcases cK.lay with h | ⟨h,_⟩
   ·exact absurd h dI
   ·rw [pT hl]at h;exact⟨h,fun h=>(by cases h),fun _=>⟨fun cs=>by simp [Di,hu],by simp [hu]⟩⟩
 ·rename_i n e hk;split at h
  ·cases h
  ·rename_i dI;rw [aiO]at h;obtain⟨l,hl,he⟩:=h;cases he;rw [hk]at cO;have hu:=nJ cO;rcases cK.lay with h | ⟨h,_⟩
   ·exact absurd h dI
   ·rw [pT hl]at h;exact⟨h,fun h=>(by cases h),fun _=>⟨fun cs=>by simp [Di,hu],by simp [hu]⟩⟩
 ·cases h
theorem oz{ka:Bool}{k:SV}{kc:List SV}(h:s7 ka k=some kc){kl:List IntKind}{ks:List Int}(hk:ks.length=kl.length)(h1:ka=false→∃k,kl=[k])(hc:SV.aA ρ kc=xe kl ks):k.val ρ=ew ka kl ks:=by
 unfold s7 at h;split at h
 ·cases h;simp only [SV.val,hc,s6]
 ·rename_i q e;cases h;obtain⟨k0,rfl⟩:=h1 rfl
  match ks,hk,hc with
  | [x],_,hc=>
   have hc:[Value.int q (e.den ρ 0)]=[Value.int k0 x]:=hc;simp only [ai5,and_true]at hc;exact hc
 ·cases h
theorem Ea{d:Option TypeDesc}{k v:Nat}(h:gY d (.map k v)=true):d=some (.map k v):=by
 unfold gY at h;split at h<;>simp_all
theorem lh{hp:List Ck}{b j:Nat}{ck:Ck}(h:xg hp b=some (j,ck)):hp[j]? =some ck∧ck.isMap b=true:=by
 unfold xg at h;split at h
 ·rename_i i hi;rw [aiO]at h;obtain⟨c,hc,he⟩:=h;cases he;refine⟨hc,?_⟩;rw [List.findIdx?_eq_some_iff_getElem]at hi;obtain⟨bX,h1,_⟩:=hi;rw [ajk bX]at hc;cases hc;exact h1
 ·cases h
theorem yB{te:TI}{z:List bR}(h:uH T te=some z): ∀i:Nat,rowAt ρ z i=SV.aA ρ te.zero:=by
 unfold uH at h;split at h
 ·split at h
  ·rename_i hz;cases h;simp only [ai,List.isEmpty_iff]at hz;intro i;rw [hz.1];rfl
  ·cases h
 ·exact fun i=>(eU h).1 i
theorem cE: ∀{a b:List SV},eL a b=true→SV.aA ρ a=SV.aA ρ b
 | [],[],_=>rfl
 | [],_::_,h=>by simp [eL]at h
 | v::r,[],h=>by cases v<;>simp [eL]at h
 | v::r,u::s,h=>by
  unfold eL at h;split at h
  ·rename_i h1 _;cases h1
  ·rename_i h1 h2;cases h1;cases h2;simp only [ai,beq_iff_eq]at h;obtain⟨⟨rfl,rfl⟩,h⟩:=h;simp only [SV.aA,cE h]
  ·rename_i h1 h2;cases h1;cases h2;simp only [ai,beq_iff_eq]at h;obtain⟨rfl,h⟩:=h;simp only [SV.aA,cE h]
  ·rename_i h1 h2;cases h1;cases h2;simp only [ai,beq_iff_eq]at h;obtain⟨⟨⟨rfl,rfl⟩,rfl⟩,h⟩:=h;simp only [SV.aA,cE h]
  ·rename_i h1 h2;cases h1;cases h2;simp only [SV.aA,cE h]
  ·rename_i h1 h2;cases h1;cases h2;simp only [SV.aA,cE h]
  ·rename_i h1 h2;cases h1;cases h2;simp only [SV.aA,cE h]
  ·rename_i h1 h2;cases h1;cases h2;simp only [SV.aA,cE h]
  ·rename_i h1 h2;cases h1;cases h2;simp only [SV.aA,cE h]
  ·rename_i h1 h2;cases h1;cases h2;simp only [ai,beq_iff_eq]at h;obtain⟨rfl,h⟩:=h;simp only [SV.aA,cE h]
  ·cases h
theorem Eb{k:Nat}{v:List SV}: ∀{es:List (Nat×List SV)} {q:Nat},pI (Ah k v es) q=if q=k then true else pI es q
 | [],q=>by simp only [Ah,pI,eq_comm]
 | (i,u)::r,q=>by
  simp only [Ah];split
  ·rename_i h;subst h;simp only [pI,eq_comm];split<;>rfl
  ·rename_i h;simp only [pI];split
   ·rename_i h2;subst h2;rw [if_neg h]
   ·exact Eb
theorem Ec{k:Nat}{v z:List SV}: ∀{es:List (Nat×List SV)} {q:Nat},mT (Ah k v es) z q=if q=k then v else mT es z q
 | [],q=>by simp only [Ah,mT,eq_comm]
 | (i,u)::r,q=>by
  simp only [Ah];split
  ·rename_i h;subst h;simp only [mT,eq_comm];split<;>rfl
  ·rename_i h;simp only [mT];split
   ·rename_i h2;subst h2;rw [if_neg h]
   ·exact Ec
theorem uI(_:bD P T=true)(DY:ρ.bv.length=nb){t:Nat}{res:hU}(h:r8 T nb t=some res):
  sx P ρ w hp S nb nv ((do pure (.value (←Instr.makeMap t none)):Sem Next).run P w) res:=by
 unfold r8 at h;split at h
 ·rename_i kt vt sz by_ zr ly fc;split at h
  ·rename_i tk tv Dh htv;split at h
   ·rename_i kl ka aD hk hz;cases h;refine⟨w.alloc (.map #[] 0),_,if_pos rfl,?_,⟨rfl,rfl,rfl,by simp⟩,by simp,fun k hk=>heap_alloc_old w _ hk,⟨fun k=>Iff.rfl,⟨#[],0,heap_alloc_new w _,?_⟩,?_⟩⟩
    ·subst DY;simp [Instr.makeMap,SV.val,lA]
    ·refine⟨by simp,by simp,fun ks _ hh=>by simp [E.den]at hh⟩
    ·intro ks _ _;split at hz
     ·cases hz
     ·exact yB (ρ:=ρ) hz _
   ·rename_i kl ka hk hz;cases h;refine⟨w.alloc (.map #[] 0),_,if_pos rfl,?_,⟨rfl,rfl,rfl,by simp⟩,by simp,fun k hk=>heap_alloc_old w _ hk,⟨fun k=>Iff.rfl,⟨#[],0,heap_alloc_new w _,?_⟩,?_⟩⟩
    ·subst DY;simp [Instr.makeMap,SV.val,lA]
    ·refine⟨by simp,by simp,fun ks _ hh=>by simp [pI]at hh⟩
    ·intro ks _ _;rfl
   ·cases h
  ·cases h
 ·cases h
theorem oA{agg:Bool}{cs:List SV}{v:SV}(h:iF agg cs=some v):v.val ρ=xI agg (SV.aA ρ cs):=by
 obtain⟨h1,h2⟩:=mB ρ h;cases agg with
 | true=>rw [h1 rfl];rfl
 | false=>have:=h2 rfl;rw [this];rfl
theorem Nf{ti:TI}(cK:kr P ti){i:TypeInfo}{z:Value}(hi:P.info? ti.t=some i)(hz:i.zero=some z)(hc:SV.aA ρ ti.zero=z.cells.toList):xI ti.k.agg (SV.aA ρ ti.zero)=z:=by
 have hg:=cK.zag i z hi hz;rw [hc];cases z with
 | agg cs=>simp only at hg;rw [hg];simp [xI,Value.cells]
 | _=>simp only [Bool.not_eq_true']at hg;rw [hg];simp [xI,Value.cells]
theorem wQ(hT:bD P T=true){t:Nat}{x k:SV}{comma:Bool}{res:hU}(h:uJ T hp t x k comma=some res)(cP:Reads hp ρ w S res.rd):
  (Instr.lookup t (x.val ρ) (k.val ρ) comma).run P w= .ok (res.val.val ρ) w∧res.hZ= .none:=by
 unfold uJ at h;split at h
 ·rename_i kt vt sz by_ zr ly fc;obtain⟨ht,cK⟩:=aE hT fc;have hm:P.underlying t=some (.map kt vt):=by
   have:=cK.kind;rw [←ht];exact Ea this
  split at h
  ·rename_i tk tv Dh htv;obtain⟨rfl,XE⟩:=aE hT htv;obtain⟨iv,hiv,_,_,z,hz,Ac⟩:=XE.info;have hzr:(zeroValue tv.t).run P w= .ok z w:=by simp [zeroValue,typeInfo,hiv,hz]
   have UC:=Nf (ρ:=ρ) XE hiv hz (Ac ρ);split at h
   ·rename_i kl ka cO;have hK:=rz hT Dh cO;split at h
    ·rename_i kc Z8;split at h
     ·rename_i Mo a DS;split at h
      ·cases h
      ·rename_i DT;simp only [ne_eq,Decidable.not_not]at DT;subst DT;have UD:=oz (ρ:=ρ) (ks:=(ajw Mo.length).map (a.den ρ)) Z8 (by simp) (fun hk=>by obtain⟨k,h1,_⟩:=hK.one hk;exact⟨k,h1⟩) (gD DS);split at h
       ·rw [aiO]at h;obtain⟨v,hv,rfl⟩:=h;refine⟨?_,rfl⟩;have Gx:=oA (ρ:=ρ) hv;rw [UC]at Gx;rw [UD];have:=yA (P:=P) (w:=w) hm hK (ks:=(ajw Mo.length).map (a.den ρ)) (comma:=comma) (by simp) hzr;show(Instr.lookup t (.map none) _ comma).run P w=_;rw [this];cases comma<;>simp [SV.val,SV.bH,Gx,BE.den]
       ·rename_i b;split at h
        ·rename_i j b' yC Ng KL AY has aD hf;split at h
         ·rename_i ia;obtain⟨rfl,rfl,rfl,pe⟩:=ia;split at h
          ·rename_i es B9;rw [aiO]at h;obtain⟨v,hv,rfl⟩:=h;refine⟨?_,rfl⟩;obtain⟨hj,dA⟩:=lh hf;simp only [Ck.isMap,beq_iff_eq]at dA;subst dA;have hS:=cP j (by simp) _ hj;have mw:=lO ρ B9;rw [qJ,aiX]at mw;have Gx:=oA (ρ:=ρ) hv;rw [mw]at Gx;rw [UD];have hz2:=cE (ρ:=ρ) pe;rw [←hz2]at UC;have:=pP (P:=P) (w:=w) hm hK (ks:=(ajw yC.length).map (a.den ρ)) (comma:=comma) (by simp) hS hzr UC;show(Instr.lookup t (.map (some (ρ.bv.getD b 0))) _ comma).run P w=_;rw [this];cases comma with
           | false=>simp only [Bool.false_eq_true,if_false,Gx]
           | true=>
            simp only [if_true,SV.val,SV.bH,Gx,w_,dY,qJ,aiX]
          ·cases h
         ·cases h
        ·rename_i j b' yC Ng KL AY es hf;split at h
         ·rename_i ia;obtain⟨rfl,rfl,rfl,pe⟩:=ia;split at h
          ·rename_i n UE;rw [aiO]at h;obtain⟨v,hv,rfl⟩:=h;refine⟨?_,rfl⟩;obtain⟨hj,dA⟩:=lh hf;simp only [Ck.isMap,beq_iff_eq]at dA;subst dA;have hS:=cP j (by simp) _ hj;rw [Ck.kB]at hS;have r9:n.toNat=bG ((ajw yC.length).map (a.den ρ)):=by
            have:=qJ (ρ:=ρ) yC.length a;rw [UE]at this;simp only [E.den]at this;rw [this,aiX]
           have Gx:=oA (ρ:=ρ) hv;rw [r9]at Gx;rw [UD];have hz2:=cE (ρ:=ρ) pe;rw [←hz2]at UC;have:=pP (P:=P) (w:=w) hm hK (ks:=(ajw yC.length).map (a.den ρ)) (comma:=comma) (by simp) hS hzr UC;show(Instr.lookup t (.map (some (ρ.bv.getD b 0))) _ comma).run P w=_;rw [this];cases comma with
           | false=>simp only [Bool.false_eq_true,if_false,Gx]
           | true=>simp only [if_true,SV.val,SV.bH,Gx,BE.den,r9]
          ·cases h
         ·cases h
        ·cases h
       ·cases h
     ·cases h
    ·cases h
   ·cases h
  ·cases h
 ·cases h
theorem AZ{v:SV}{vs:List SV}(h:ej v=some vs):v.val ρ=xI (Ch v) (SV.aA ρ vs):=by
 cases v with
 | agg cs=>
  simp only [ej]at h;split at h
  ·cases h;rfl
  ·cases h
 | b_ k n a=>
  simp only [ej,SV.one,if_true,aiP]at h;subst h;simp [SV.val,SV.aA,SV.cells,Ch,xI]
 | opt c v=>simp [ej,SV.one]at h
 | undef=>simp [ej,SV.one]at h
 | mu vs=>simp [ej,SV.one]at h
 | _=>
  simp only [ej,SV.one,if_true,aiP]at h;subst h;rfl
theorem oV(hT:bD P T=true){t:Nat}{x k v:SV}{res:hU}(h:qK T hp t x k v=some res)(cP:Reads hp ρ w S res.rd):
  res.val= .undef∧∃j ck,res.hZ= .set j ck∧∃w',(Instr.mapUpdate t (x.val ρ) (k.val ρ) (v.val ρ)).run P w= .ok () w'∧IV P w ρ hp S j ck w':=by
 unfold qK at h;split at h
 ·rename_i kt vt sz by_ zr ly fc;obtain⟨ht,cK⟩:=aE hT fc;have hm:P.underlying t=some (.map kt vt):=by
   have:=cK.kind;rw [←ht];exact Ea this
  split at h
  ·rename_i tk tv Dh htv;split at h
   ·rename_i kl ka cO;have hK:=rz hT Dh cO;split at h
    ·rename_i kc vs Z8 AR;split at h
     ·rename_i Mo a b DS;split at h
      ·rename_i j b' yC Ng KL zero has aD hf;split at h
       ·rename_i ia;obtain⟨rfl,rfl,rfl,Ed,hlen,Ab⟩:=ia;split at h
        ·rename_i aT pG;cases h;have UD:=oz (ρ:=ρ) (ks:=(ajw yC.length).map (a.den ρ)) Z8 (by simp) (fun hk=>by obtain⟨k,h1,_⟩:=hK.one hk;exact⟨k,h1⟩) (gD DS);obtain⟨hj,dA⟩:=lh hf;simp only [Ck.isMap,beq_iff_eq]at dA;subst dA;have hS:=cP j (by simp) _ hj;obtain⟨p1,p2,p3,p4⟩:=jq ρ pG;rw [qJ,aiX]at p3 p4;have Gx:=AZ (ρ:=ρ) AR;rw [Ab,←Ed]at Gx;have XF:rowAt ρ aT (bG ((ajw yC.length).map (a.den ρ)))=SV.aA ρ vs:=by
          rw [p4,List.drop_eq_nil_of_le,List.append_nil];rw [show(rowAt ρ aD _).length=bT aD from c9 ρ aD _,bw];exact Nat.le_of_eq hlen.symm
         obtain⟨w',r1,r2,r3,r4,r5⟩:=pQ (P:=P) (w:=w) hm hK (ks:=(ajw yC.length).map (a.den ρ)) (by simp) hS (v.val ρ) (SV.aA ρ vs) Gx
          (GL:=fun q=> !((E.sD has (QM yC.length a) (.lit 1)).den ρ q==0)) (Nc:=fun i=>(aT.map (bR.cells ρ)).flatMap fun c=>c i)
          (fun q=>by
           simp only [E.den,qJ,aiX];split<;>simp_all)
          (fun q=>by
           split
           ·rename_i hq;rw [hq];exact XF
           ·rename_i hq;exact p3 q hq)
         refine⟨rfl,j,_,rfl,w',?_,⟨⟨_,hj,rfl⟩,rfl,r2,r3,fun k hk=>r4 k (fun e=>hk ((hS.1 k).2 e)),r5⟩⟩;rw [UD];exact r1
        ·cases h
       ·cases h
      ·rename_i j b' yC Ng KL zero es hf;split at h
       ·rename_i ia;obtain⟨rfl,rfl,rfl,Ed,Ab⟩:=ia;split at h
        ·rename_i n UE;cases h;have UD:=oz (ρ:=ρ) (ks:=(ajw yC.length).map (a.den ρ)) Z8 (by simp) (fun hk=>by obtain⟨k,h1,_⟩:=hK.one hk;exact⟨k,h1⟩) (gD DS);obtain⟨hj,dA⟩:=lh hf;simp only [Ck.isMap,beq_iff_eq]at dA;subst dA;have hS:=cP j (by simp) _ hj;rw [Ck.kB]at hS;have r9:n.toNat=bG ((ajw yC.length).map (a.den ρ)):=by
          have:=qJ (ρ:=ρ) yC.length a;rw [UE]at this;simp only [E.den]at this;rw [this,aiX]
         have Gx:=AZ (ρ:=ρ) AR;rw [Ab,←Ed]at Gx;obtain⟨w',r1,r2,r3,r4,r5⟩:=pQ (P:=P) (w:=w) hm hK (ks:=(ajw yC.length).map (a.den ρ)) (by simp) hS (v.val ρ) (SV.aA ρ vs) Gx
          (GL:=fun q=>pI (Ah n.toNat vs es) q) (Nc:=fun q=>SV.aA ρ (mT (Ah n.toNat vs es) zero q))
          (fun q=>by rw [Eb,←r9])
          (fun q=>by
           simp only [Ec,←r9];split<;>rfl)
         refine⟨rfl,j,_,rfl,w',?_,⟨⟨_,hj,rfl⟩,rfl,r2,r3,fun k hk=>r4 k (fun e=>hk ((hS.1 k).2 e)),by rw [Ck.kB];exact r5⟩⟩;rw [UD];exact r1
        ·cases h
       ·cases h
      ·cases h
     ·cases h
    ·cases h
   ·cases h
  ·cases h
 ·cases h
end
variable {P:Program} {w:World}
theorem Ai(t ti ty e:TypeId)(kt:IntKind)(i:TypeInfo)(z:Value)(ht:P.underlying t=some (.slice e))(cK:P.underlying ti=some (.int kt))(hi:P.info? e=some i)(hz:i.zero=some z)
  (k:IntKind) (m:Nat) (g o:Nat) (n cap:Nat) (eS:0<i.size) (hm:0<m) (hw:IntKind.i64.wrap (m:Int)=m) (hb: ¬(2^48:Int)<(m:Int)*i.bytes) (pL:n+m≤cap) {w':World}
  (zU:(storeCells ⟨g,o+n*i.size,none⟩ (ajg z.cells m).toList).run P w= .ok () w'):
  (ajc #[t,ti] ty #[.slice (some ⟨g,o,none⟩) n cap,.int k (m:Int)]).run P w= .ok (.slice (some ⟨g,o,none⟩) (n+m) cap) w':=by
 have h0: ¬(m:Int)<0:=by omega
 have dI: ¬m*i.size=0:=Nat.ne_of_gt (Nat.mul_pos hm eS);have Xw: ¬(281474976710656:Int)<(m:Int)*i.bytes:=hb;simp [ajc,run_underlying ht,run_underlying cK,sizeOf,typeInfo,zeroValue,hi,hz,asInt,asIntOf,hw,h0,Xw,pL,dI,eB,zU]
theorem yD(t ti ty e:TypeId)(kt:IntKind)(i:TypeInfo)(z:Value)(ht:P.underlying t=some (.slice e))(cK:P.underlying ti=some (.int kt))(hi:P.info? e=some i)(hz:i.zero=some z)
  (k:IntKind) (m:Nat) (base:Option Addr) (n cap:Nat) (XG:List Value) (hold:(Builtin.firstCells i.size n (.slice base n cap)).run P w.drew= .ok XG.toArray w.drew)
  (eS:0<i.size) (hw:IntKind.i64.wrap (m:Int)=m) (hb: ¬(2^48:Int)<(m:Int)*i.bytes) (hg:cap<n+m) (hm:0<m) (P6:((n+m:Nat):Int)≤9223372036854775807) (rW:Builtin.nextslicecap (n+m) cap*i.bytes≤281474976710656):
  (ajc #[t,ti] ty #[.slice base n cap,.int k (m:Int)]).run P w=
   .ok (.slice (some ⟨w.heap.size,0,none⟩) (n+m) (grownCap w (n+m) cap e))
    (w.drew.alloc (.cells (XG.toArray++ajg z.cells m++ajg z.cells (grownCap w (n+m) cap e - (n+m))) e)):=by
 have h0: ¬(m:Int)<0:=by omega
 have dI: ¬m*i.size=0:=Nat.ne_of_gt (Nat.mul_pos hm eS);have Xw: ¬(281474976710656:Int)<(m:Int)*i.bytes:=hb;have hn: ¬(n+m≤cap):=by omega
 have abh: ¬(9223372036854775807<((n:Int)+(m:Int))):=by omega
 have abi: ¬(281474976710656<Builtin.nextslicecap (n+m) cap*i.bytes):=by omega
 simp [ajc,run_underlying ht,run_underlying cK,sizeOf,typeInfo,zeroValue,hi,hz,asInt,asIntOf,hw,h0,Xw,hn,abh,abi,dI,Question.forced,hold,newRow,grownCap]
theorem oW(t ti ty e:TypeId)(kt:IntKind)(i:TypeInfo)(z:Value)(size bytes:Nat)(ht:P.underlying t=some (.slice e))(cK:P.underlying ti=some (.int kt))(hi:P.info? e=some i)(hz:i.zero=some z)
  (ji:i.size=size) (ue:i.bytes=bytes) (pe:z.cells.size=size) (eS:0<size)
  (v:Value) (n:Nat) (xs:List Value) (cI:w.ic e size v n xs)
  (k:IntKind) (m:Nat) (h1: ∀u∈(ajg z.cells m).toList,u.oneCell'=true) (P6:n+m≤140737488355328) (oo:(n+m)*bytes≤140737488355328):
  ∃v' w',(ajc #[t,ti] ty #[v,.int k (m:Int)]).run P w= .ok v' w'∧w'.ic e size v' (n+m) (xs++(ajg z.cells m).toList)∧w.grownBy w' v.ownBlock∧
   (v'.ownBlock=v.ownBlock∨v'.ownBlock=some w.heap.size):=by
 subst ji;subst ue;have hw:IntKind.i64.wrap (m:Int)=m:=uy .i64 _ (by show(-9223372036854775808:Int)≤_;omega) (by show _≤(9223372036854775807:Int);omega);have hmb:m*i.bytes≤140737488355328:=by
  rw [Nat.add_mul]at oo;omega
 have hb: ¬(2^48:Int)<(m:Int)*i.bytes:=by
  rw [←Int.natCast_mul];have:(2^48:Int)=281474976710656:=by decide
  omega
 have ng:(ajg z.cells m).toList.length=m*i.size:=by rw [ajv,size_zeroCells,pe]
 have hlen:(xs++(ajg z.cells m).toList).length=(n+m)*i.size:=by rw [List.length_append,cI.1,ng,Nat.add_mul]
 by_cases KD:m=0
 ·subst KD;have Xp:(ajg z.cells 0).toList=[]:=ai6 (by simpa using ng);have Ti:IntKind.i64.wrap 0=0:=hw;refine⟨v,w,?_,by rw [Xp];simpa using cI,⟨rfl,rfl,rfl,Nat.le_refl _,fun _ _ _=>rfl⟩,.inl rfl⟩;rcases cI.2 with⟨rfl,rfl⟩ | ⟨g,o,cap,cur,rfl,_,Dg,_⟩
  ·simp [ajc,run_underlying ht,run_underlying cK,sizeOf,typeInfo,hi,asInt,asIntOf,Ti]
  ·simp [ajc,run_underlying ht,run_underlying cK,sizeOf,typeInfo,hi,asInt,asIntOf,Ti,Dg,storeCells]
 have hm:0<m:=by omega
 have grow: ∀(base:Option Addr) (cap:Nat),(Builtin.firstCells i.size n (.slice base n cap)).run P w.drew= .ok xs.toArray w.drew→cap<n+m→v= .slice base n cap→
   ∃v' w',(ajc #[t,ti] ty #[v,.int k (m:Int)]).run P w= .ok v' w'∧w'.ic e i.size v' (n+m) (xs++(ajg z.cells m).toList)∧w.grownBy w' v.ownBlock∧
   (v'.ownBlock=v.ownBlock∨v'.ownBlock=some w.heap.size):=by
  intro base cap hold hg hv;subst hv;have jI:=grownCap_ge w (n+m) cap e;have M7:grownCap w (n+m) cap e≤maxLen:=grownCap_le_maxLen w (n+m) cap e (by unfold maxLen;omega);have hr:=yD (P:=P) (w:=w) t ti ty e kt i z ht cK hi hz k m base n cap xs hold eS hw hb hg hm (by omega) (growslice_fits (by omega) oo);refine⟨_,_,hr,⟨hlen,.inr ⟨w.heap.size,0,_,_,rfl,⟨e,_,heap_alloc_new w.drew _,.zero _⟩,jI,M7,?_,?_⟩⟩,⟨rfl,rfl,rfl,by simp,fun k hk _=>heap_alloc_old w.drew _ hk⟩,Or.inr rfl⟩
  ·simp only [Array.size_append,List.size_toArray,size_zeroCells,pe,cI.1,←Nat.add_mul,Nat.zero_add];intro _;apply Nat.le_of_eq;congr 1;omega
  ·simp only [Array.toList_append,List.drop_zero];rw [←hlen];exact List.take_left
 rcases cI.2 with⟨rfl,rfl⟩ | ⟨g,o,cap,cur,rfl,⟨t',fz,hg,GV⟩,Dg,P4,mw,Dh⟩
 ·have hx:xs=[]:=ai6 (by simpa using cI.1);subst hx;exact grow none 0 (by simp [Builtin.firstCells]) (by omega) rfl
 ·by_cases pL:n+m≤cap
  ·have mw:=mw (by omega);have hmul:(n+m)*i.size≤cap*i.size:=Nat.mul_le_mul_right _ pL;rw [Nat.add_mul]at hmul;have rW:o+n*i.size+(ajg z.cells m).toList.length≤cur.size:=by omega
   have zU:=eE (P:=P) g (o+n*i.size) t' fz (ajg z.cells m).toList 0 cur w hg GV (by simpa using rW) h1;simp only [Nat.add_zero]at zU;have hr:=Ai (P:=P) (w:=w) t ti ty e kt i z ht cK hi hz k m g o n cap eS hm hw hb pL zU;refine⟨_,_,hr,⟨hlen,.inr ⟨g,o,cap,_,rfl,⟨t',fz,setRow_heap w g cur _ t' _ hg,by refine Eq.mp (congrArg (rm · fz) ?_) GV;simp only [List.size_toArray,List.length_append,List.length_take,List.length_drop,ajv]at rW ⊢;omega⟩,pL,P4,?_,?_⟩⟩,⟨rfl,rfl,rfl,by simp,fun k _ hk=>setRow_other w g k _ (fun e=>hk (by simp [Value.ownBlock,e]))⟩,Or.inl rfl⟩
   ·simp only [List.size_toArray,List.length_append,List.length_take,List.length_drop,ajv]at rW ⊢;intro _;omega
   ·have:=pE cur.toList (ajg z.cells m).toList o (n*i.size) ((n+m)*i.size) (by rw [Nat.add_mul];omega) (by rw [Nat.add_mul];simp only [ajv]at rW ⊢;omega);simp only;rw [this,List.take_take,Nat.min_eq_left (by rw [Nat.add_mul];omega),Dh,ng,←Nat.add_mul,List.drop_eq_nil_of_le (by rw [List.length_take];exact Nat.min_le_left _ _),List.append_nil]
  ·exact grow (some ⟨g,o,none⟩) cap (run_firstCells_some (P:=P) w.drew i.size n ⟨g,o,none⟩ n cap xs cI.1 (by simpa using jk cI)) (by omega) rfl
section
variable {ρ:Env} {hp:List Ck} {S:Nat→Nat→Prop} {nb nv:Nat} {T:List TI}
theorem Aj(hT:bD P T=true){ts t':TypeId}{tt ti:TI}(fc:aU T ts=some tt)(XH:aU T t'=some ti){kt:IntKind}(Z9:ti.k= .int kt){x:SV}{m:E}{res:hU}(h:Ci T hp nv tt.k x m=some res)
  (cP:Reads hp ρ w S res.rd) (bW: ∀b∈res.vcs,b.prop ρ) (k:IntKind) (ty:TypeId):
  sx P ρ w hp S nb nv ((do pure (.value (←ajc #[ts,t'] ty #[x.val ρ,.int k (m.den ρ 0)])):Sem Next).run P w) res:=by
 unfold Ci at h;split at h
 ·rename_i t v hk;split at h
  ·rename_i te j md t2 s n aD gP hj;split at h
   ·rename_i zc Ac;split at h
    ·rename_i aT ep;split at h
     ·rename_i ia;obtain⟨rfl,hs,hw⟩:=ia;cases h;simp only at bW cP;obtain⟨rfl,ov⟩:=aE hT fc;obtain⟨rfl,cK⟩:=aE hT gP;obtain⟨rfl,htj⟩:=aE hT XH;have cO:=ov.kind;rw [hk]at cO;have hu:=bM cO;have XI:=htj.kind;rw [Z9]at XI;have huj:=jr XI;obtain⟨i,hi,eS,ue,z,hz,hc⟩:=cK.info;have pe:z.cells.size=te.size:=by rw [←ajv,←hc ρ,bw,cK.z9]
      obtain⟨v1,v3⟩:=bE bW;obtain⟨v1,v2⟩:=bE v1;have v1:=a_ v1;have v2:=a_ v2;simp only [E.den]at v1 v2;obtain⟨z1,z2,z3⟩:=eU (ρ:=ρ) Ac;have o8:(du n m).den ρ 0=n.den ρ 0+m.den ρ 0:=bI ..;obtain⟨b1,b2⟩:=gH (n:=du n m) (bytes:=te.bytes) (v3 _ (by simp)) (by rw [o8];omega);have lR:((du n m).den ρ 0).toNat=(n.den ρ 0).toNat+(m.den ρ 0).toNat:=by rw [o8];omega
      rw [lR]at b1 b2;obtain⟨hj0,hov⟩:=cN hj;have hov:v=md:=by simpa [Ck.mC] using hov
      subst hov;obtain⟨cI,kO⟩:=cP j (by simp) _ hj0;simp only [if_true]at cI;have P7:m.den ρ 0=(((m.den ρ 0).toNat:Nat):Int):=by omega
      have Ks:(ajg z.cells (m.den ρ 0).toNat).toList=aK ρ (m.den ρ 0).toNat zc:=by
       rw [s5 Ac,hc ρ];exact sS _ _ (by omega)
      obtain⟨v',w',r1,r2,r3,r5⟩:=oW (P:=P) (w:=w) tt.t ti.t ty te.t kt i z te.size te.bytes hu huj hi hz eS ue pe z3 _ _ _ (by rw [←hs];exact cI) k (m.den ρ 0).toNat (by rw [Ks];exact ot _ _) b2 b1;have fe:aK ρ ((du n m).den ρ 0).toNat aT=aK ρ (n.den ρ 0).toNat aD++aK ρ (m.den ρ 0).toNat zc:=by
       rw [lR];obtain⟨c1,c2,c3⟩:=fE (ρ:=ρ) v1 v2 ep;rw [cj,fQ];congr 1
       ·exact cA fun k hk=>by rw [c3,if_neg (by omega)]
       ·exact cA fun k hk=>by rw [c3,if_pos (by omega)];congr 1;omega
      refine⟨te.t,s,_,aT,v',w',fun k=>v'.ownBlock=some k,rfl,rfl,by rw [P7];simp only [SV.val,ai2,r1,aiU,ajd],?_,⟨_,hj0,rfl⟩,⟨r3.os,r3.tape,r3.output,r3.size⟩,?_,⟨?_,fun k=>⟨fun h=>⟨h,.inl rfl⟩,fun h=>h.1⟩⟩,?_⟩
      ·rcases r2.2 with⟨rfl,_⟩ | ⟨g,o,cap,cur,rfl,_⟩<;>rfl
      ·intro k hk hn;exact r3.block k hk fun he=>hn ((kO k).2 ⟨he.symm,.inl rfl⟩)
      ·simp only [if_true];rw [fe,lR,hs,←Ks];exact r2
      ·intro k hk;rcases r5 with h | h
       ·left;rw [kO k,←h];exact⟨hk,.inl rfl⟩
       ·right;rw [hk]at h;cases h;exact⟨Nat.le_refl _,gU r2 hk⟩
     ·cases h
    ·cases h
   ·cases h
  ·cases h
 ·rename_i t hk;split at h
  ·rename_i te gP;split at h
   ·rename_i zc Ac;split at h
    ·rename_i hw;cases h;simp only at bW;obtain⟨rfl,ov⟩:=aE hT fc;obtain⟨rfl,cK⟩:=aE hT gP;obtain⟨rfl,htj⟩:=aE hT XH;have cO:=ov.kind;rw [hk]at cO;have hu:=bM cO;have XI:=htj.kind;rw [Z9]at XI;have huj:=jr XI;obtain⟨i,hi,eS,ue,z,hz,hc⟩:=cK.info;have pe:z.cells.size=te.size:=by rw [←ajv,←hc ρ,bw,cK.z9]
     obtain⟨v2,v3⟩:=bE bW;have v2:=a_ v2;simp only [E.den]at v2;obtain⟨z1,z2,z3⟩:=eU (ρ:=ρ) Ac;obtain⟨b1,b2⟩:=gH (n:=m) (bytes:=te.bytes) (v3 _ (by simp)) v2;have P7:m.den ρ 0=(((m.den ρ 0).toNat:Nat):Int):=by omega
     have Ks:(ajg z.cells (m.den ρ 0).toNat).toList=aK ρ (m.den ρ 0).toNat zc:=by
      rw [s5 Ac,hc ρ];exact sS _ _ (by omega)
     obtain⟨v',w',r1,r2,r3,r5⟩:=oW (P:=P) (w:=w) tt.t ti.t ty te.t kt i z te.size te.bytes hu huj hi hz eS ue pe z3 (.slice none 0 0) 0 [] (jR w te.t te.size) k (m.den ρ 0).toNat (by rw [Ks];exact ot _ _) (by rw [Nat.zero_add];exact b2) (by rw [Nat.zero_add];exact b1);refine⟨te.t,te.size,_,zc,v',w',fun k=>v'.ownBlock=some k,rfl,rfl,by rw [P7];simp only [SV.val,ai2,r1,aiU,ajd],?_,⟨r3.os,r3.tape,r3.output,r3.size⟩,fun k hk=>r3.block k hk (by simp [Value.ownBlock]),⟨?_,fun k=>⟨fun h=>⟨h,.inl rfl⟩,fun h=>h.1⟩⟩,?_⟩
     ·rcases r2.2 with⟨rfl,_⟩ | ⟨g,o,cap,cur,rfl,_⟩<;>rfl
     ·simp only [if_true];rw [←Ks];simpa using r2
     ·intro k hk;rcases r5 with h | h
      ·rw [hk]at h;cases h
      ·rw [hk]at h;cases h;exact⟨Nat.le_refl _,gU r2 hk⟩
    ·cases h
   ·cases h
  ·cases h
 ·cases h
end
variable {P:Program} {w:World}
section
variable {ρ:Env} {hp:List Ck} {S:Nat→Nat→Prop} {nb nv:Nat} {T:List TI}
theorem s8{b t:Nat}{cs:List Value}{S':Nat→Prop}(h:(al b true cs).p w S')(hl:cs.length≤maxLen):w.ic t 1 (.slice (some ⟨b,0,none⟩) cs.length cs.length) cs.length cs:=by
 obtain⟨_,ty,fz,hb,hf⟩:=h;have:=hf rfl;subst this;refine⟨by omega,.inr ⟨b,0,cs.length,_,rfl,⟨ty,_,hb,.zero _⟩,Nat.le_refl _,hl,fun _=>by simp,by simp⟩⟩
theorem wR(hT:bD P T=true){ts:TypeId}{tt:TI}(fc:aU T ts=some tt){x y:SV}{res:hU}(h:uK T hp nv tt.k x y=some res)
  (cP:Reads hp ρ w S res.rd) (bW: ∀b∈res.vcs,b.prop ρ) (ty:TypeId):
  sx P ρ w hp S nb nv ((do pure (.value (←ajc #[ts,ts] ty #[x.val ρ,y.val ρ])):Sem Next).run P w) res:=by
 unfold uK at h;split at h
 case h_2=>cases h
 rename_i t b ix s n m hk;split at h
 case h_2=>cases h
 rename_i te j b' cs q gP QF hix hn;split at h
 case h_2=>cases h
 rename_i ki kl a sc KM iT;split at h
 case isFalse=>cases h
 rename_i hc;obtain⟨rfl,rfl,KN,hq,M6⟩:=hc;rw [aiO]at h;obtain⟨aT,ep,rfl⟩:=h;simp only at bW cP;obtain⟨rfl,ov⟩:=aE hT fc;obtain⟨rfl,cK⟩:=aE hT gP;have cO:=ov.kind;rw [hk]at cO;have hu:=bM cO;obtain⟨i,hi,eS,ue,z,hz,hcz⟩:=cK.info;have pe:z.cells.size=te.size:=by rw [←ajv,←hcz ρ,bw,cK.z9]
 obtain⟨v1,v3⟩:=bE bW;obtain⟨v1,v2⟩:=bE v1;have v2:=a_ v2;simp only [E.den]at v2;have XJ:n.den ρ 0=(q:Int):=cn (ρ:=ρ) hn;have XK:ix.den ρ 0=((0:Nat):Int):=cn (ρ:=ρ) hix;obtain⟨_,s2,s3⟩:=fF (te:=te) iT (fun j hj=>cP j (aiV _ hj)) v1 v2;have o8:(du (.lit (q:Int)) sc.n).den ρ 0=(q:Int)+sc.n.den ρ 0:=by rw [bI];rfl
 obtain⟨b1,b2⟩:=gH (n:=du (.lit (q:Int)) sc.n) (bytes:=te.bytes) (v3 _ (by simp)) (by rw [o8];omega);have lR:((du (.lit (q:Int)) sc.n).den ρ 0).toNat=q+(sc.n.den ρ 0).toNat:=by rw [o8];omega
 rw [lR]at b1 b2;obtain⟨hj,dA⟩:=cM QF;simp only [Ck.ra,beq_iff_eq]at dA;subst dA;have hS:=cP j (by simp) _ hj;have fe:SV.aA ρ cs=aj ki q (a.den ρ):=by
  have QN:=gD (ρ:=ρ) KM;rw [M6,List.length_replicate,oc]at QN;exact QN
 have hlen:(SV.aA ρ cs).length=q:=by rw [fe,aF]
 have KE:(al (ρ.bv.getD b 0) true (SV.aA ρ cs)).p w (S j):=hS;have cI:=s8 (t:=te.t) KE (by rw [hlen];unfold maxLen;omega);rw [hlen,fe]at cI;have kO: ∀k,S j k↔k=ρ.bv.getD b 0:=KE.1;obtain⟨v',w',r1,r2,r3,r5⟩:=mV (P:=P) (w:=w) tt.t ty te.t i z te.size te.bytes hu hi hz eS ue pe (by omega) _ q _ (by rw [KN];exact cI)
  _ _ _ s3 (by rw [c_,s2]) (ot _ _) (by unfold maxLen;omega) b1
 have G5:(SV.sl b ix 1 n n).val ρ= .slice (some ⟨ρ.bv.getD b 0,0,none⟩) q q:=by simp [SV.val,XJ,XK]
 have M_:aK ρ ((du (.lit (q:Int)) sc.n).den ρ 0).toNat aT=aj ki q (a.den ρ)++aK ρ (sc.n.den ρ 0).toNat sc.aD:=by
  rw [lR];obtain⟨c1,c2,c3⟩:=fE (ρ:=ρ) (at_:= .lit (q:Int)) (by show(0:Int)≤(q:Int);omega) v2 ep;have hqd:((E.lit (q:Int)).den ρ 0).toNat=q:=by show ag (q:Int)=q;omega
  rw [hqd]at c3;rw [←dG ki q a,cj,fQ];congr 1
  ·exact cA fun k hk=>by rw [c3,if_neg (by omega)]
  ·exact cA fun k hk=>by rw [c3,if_pos (by omega)];congr 1;omega
 refine⟨te.t,1,_,aT,v',w',fun k=>v'.ownBlock=some k,rfl,rfl,by rw [G5];simp only [ai2,r1,aiU,ajd],?_,⟨_,hj,rfl⟩,⟨r3.os,r3.tape,r3.output,r3.size⟩,?_,⟨?_,fun k=>⟨fun h=>⟨h,.inl rfl⟩,fun h=>h.1⟩⟩,?_⟩
 ·rcases r2.2 with⟨rfl,_⟩ | ⟨g,o,cap,cur,rfl,_⟩<;>rfl
 ·intro k hk Nh;refine r3.block k hk fun he=>Nh ((kO k).2 ?_)
  simp only [Value.ownBlock,aiP]at he;exact he
 ·simp only [if_true];rw [M_,lR,←KN];exact r2
 ·intro k hk;rcases r5 with h | h
  ·left;rw [hk]at h;simp only [Value.ownBlock,aiP]at h;exact(kO k).2 h
  ·right;rw [hk]at h;cases h;exact⟨Nat.le_refl _,gU r2 hk⟩
theorem s9: ∀{cs:List SV} {l:List Nat},xh cs=some l→SV.aA ρ cs=l.map fun n=>(ρ.vv.getD n V1.nil).v
 | [],l,h=>by cases h;rfl
 | .vv i::r,l,h=>by
  simp only [xh,aiO]at h;obtain⟨l',h',rfl⟩:=h;simp only [SV.aA,SV.cells,s9 h',ajb,List.singleton_append]
theorem rA{x:SV}{j:Nat}{l:List Nat}(h:s_ hp x=some (j,l))(cP:Reads hp ρ w S [j]):
  ∃b c,x.val ρ= .slice (some ⟨b,0,none⟩) l.length c∧∀(k:Nat) u,(l.map fun n=>(ρ.vv.getD n V1.nil).v)[k]? =some u→w.cell? ((⟨b,0,none⟩:Addr).add k)=some u:=by
 unfold s_ at h;split at h
 case h_2=>cases h
 rename_i b i s n m;split at h
 case h_2=>cases h
 rename_i j' b' wr cs q hf hi hn;split at h
 case h_2=>cases h
 rename_i l' hl;split at h
 case isFalse=>cases h
 rename_i hq;cases h;obtain⟨hj,dA⟩:=cM hf;simp only [Ck.ra,beq_iff_eq]at dA;subst dA;have hS:(al (ρ.bv.getD b 0) wr (SV.aA ρ cs)).p w (S j):=cP j (by simp) _ hj;obtain⟨_,ty,fz,hg,_⟩:=hS;have XJ:=cn (ρ:=ρ) hn;have XK:=cn (ρ:=ρ) hi;refine⟨ρ.bv.getD b 0,(m.den ρ 0).toNat,by simp [SV.val,XJ,XK,hq],fun k u hu=>?_⟩;rw [←s9 hl]at hu;rw [eB];simp only [World.cell?,hg];simpa using hu
theorem QO(l:List Nat):aK ρ l.length [⟨.Gt l,1,.lit 0⟩]=l.map fun n=>(ρ.vv.getD n V1.nil).v:=by
 unfold aK aW;simp only [ajb,List.map_nil,List.flatMap_cons,List.flatMap_nil,List.append_nil,bR.cells,cJ,List.range_one,ajb,List.map_nil];rw [List.flatMap_def];apply List.ext_getElem?;intro k;have: ∀(g:Nat→Value) (n:Nat),(List.map (fun i=>[g i]) (ajw n)).flatten=(ajw n).map g:=by
  intro g n
  induction n with
  | zero=>rfl
  | succ n ih=>rw [List.range_succ,List.map_append,List.map_append,List.flatten_append,ih];simp
 rw [this fun i=>((l[i*1+0]?).elim V1.nil fun n=>ρ.vv.getD n V1.nil).v];rw [List.getElem?_map,List.getElem?_map];by_cases hk:k<l.length
 ·rw [List.getElem?_range hk,ajk hk];simp [ajk hk]
 ·rw [ajz (by simp;omega),ajz (by omega)];rfl
theorem wS(hT:bD P T=true){ts:TypeId}{tt:TI}(fc:aU T ts=some tt){x y:SV}{res:hU}(h:uL T hp nv tt.k x y=some res)
  (cP:Reads hp ρ w S res.rd) (ty:TypeId):
  sx P ρ w hp S nb nv ((do pure (.value (←ajc #[ts,ts] ty #[x.val ρ,y.val ρ])):Sem Next).run P w) res:=by
 unfold uL at h;split at h
 case h_2=>cases h
 rename_i t b ix s n m hk;split at h
 case h_2=>cases h
 rename_i te j l j' l' gP hx hy;split at h
 case isFalse=>cases h
 rename_i hc;obtain⟨rfl,KN,dI,Ca,AU⟩:=hc;cases h;simp only at cP;obtain⟨rfl,ov⟩:=aE hT fc;obtain⟨rfl,cK⟩:=aE hT gP;have cO:=ov.kind;rw [hk]at cO;have hu:=bM cO;obtain⟨i,hi,eS,ue,z,hz,hcz⟩:=cK.info;have pe:z.cells.size=te.size:=by rw [←ajv,←hcz ρ,bw,cK.z9]
 obtain⟨xb,xc,G5,hxr⟩:=rA hx (fun k hk=>cP k (by simp at hk;simp [hk]));obtain⟨yb,yc,hyv,hyr⟩:=rA hy (fun k hk=>cP k (by simp at hk;simp [hk]));have hxc:xc=l.length:=by
  have:(SV.sl b ix s n n).val ρ= .slice (some ⟨ρ.bv.getD b 0,(ix.den ρ 0).toNat*s,none⟩) (n.den ρ 0).toNat (n.den ρ 0).toNat:=rfl;rw [this]at G5;simp only [Value.slice.injEq]at G5;omega
 subst hxc;obtain⟨v',w',r1,r2,r3,r5⟩:=oS (P:=P) (w:=w) tt.t ty te.t i z te.size te.bytes hu hi hz eS ue pe ⟨xb,0,none⟩ l.length _ (by rw [List.length_map,KN,Nat.mul_one]) hxr
  ⟨yb,0,none⟩ l'.length yc (by omega) _ (by rw [List.length_map,KN,Nat.mul_one]) hyr (by unfold maxLen;omega) Ca
 refine⟨te.t,1,_,_,v',w',fun k=>v'.ownBlock=some k,rfl,rfl,by rw [G5,hyv];simp only [ai2,r1,aiU,ajd],?_,⟨r3.os,r3.tape,r3.output,r3.size⟩,fun k hk=>r3.block k hk (by simp),⟨?_,fun k=>⟨fun h=>⟨h,.inl rfl⟩,fun h=>h.1⟩⟩,?_⟩
 ·rcases r2.2 with⟨rfl,_⟩ | ⟨g,o,cap,cur,rfl,_⟩<;>rfl
 ·simp only [if_true];have e:((E.lit ((l.length+l'.length:Nat):Int)).den ρ 0).toNat=(l++l').length:=by
   show ag ((l.length+l'.length:Nat):Int)=_;rw [aiX,List.length_append]
  rw [e,QO,List.map_append,List.length_append,←KN];exact r2
 ·intro k hk;rw [hk]at r5;cases r5;exact⟨Nat.le_refl _,gU r2 hk⟩
end
end Go.RX
