/- Executor. -/
import Derived.Test.YtmgbbbmdbpbeeaaRxOf
open Bool renaming and_eq_true → ai
open Go.Builtin renaming append_ → ad2, zeroCells → adX
open Go.Result renaming andThen_ok → adC
open Go.Sem renaming run_bind → adL, run_pure → ad_
open List renaming eq_nil_of_length_eq_zero → adR, getElem?_eq_getElem → ad8
open List.cons renaming injEq → adF
open Option renaming map_eq_some_iff → adw
open Option.some renaming injEq → adv
namespace Go.RX
section
variable {P:Program} {ρ:Env} {w:World} {look:Nat→Option SV} {vals:Operand→Value} {hp:List Ck} {S:Nat→Nat→Prop} {nb nv:Nat} {T:List TI}
theorem JF{a:E}{i:Nat}{x:Int}(h:LK a i=some x):a.den ρ i=x:=by
 unfold LK at h;split at h
 ·rename_i n hn;cases h;have:=dL ρ a (.lit i) 0;rw [hn]at this;simp only [E.den,Int.toNat_natCast]at this;exact this.symm
 ·cases h
theorem rb{a:E}: ∀{n:Nat} {l:List Int},tI a n=some l→l=(List.range n).map (a.den ρ)
 | 0,l,h=>by simp [tI]at h;subst h;rfl
 | n+1,l,h=>by
  unfold tI at h;split at h
  ·rename_i l' x h1 h2;cases h;rw [List.range_succ,List.map_append,←rb h1];simp [JF h2]
  ·cases h
theorem pZ(n:Nat)(a:E):((O6 n a).den ρ 0)=(cI ((List.range n).map (a.den ρ)):Nat):=by
 unfold O6;split
 ·rename_i l h;rw [←rb h];rfl
 ·rfl
theorem pd: ∀{l:List fJ} {kl:List IntKind},rh l=some kl→l=kl.map some
 | [],kl,h=>by simp [rh]at h;subst h;rfl
 | some k::r,kl,h=>by
  simp only [rh,adw]at h;obtain⟨x,hx,rfl⟩:=h;rw [pd hx];rfl
 | none::r,kl,h=>by simp [rh]at h
theorem qE(hT:bC P T=true){t:Nat}{tk:TI}(ht:aU T t=some tk){kl:List IntKind}{ka:Bool}(h:pe tk=some (kl,ka)):BR P t kl ka:=by
 obtain⟨rfl,cF⟩:=aG hT ht;have cL:=cF.kind;unfold pe at h;split at h
 ·rename_i k hk;cases h;rw [hk]at cL;have hu:=iR cL;exact⟨by simp [eG,hu],fun _=>⟨k,rfl,hu⟩,fun h=>(by cases h)⟩
 ·rename_i fs hk;split at h
  ·cases h
  ·rename_i dR;rw [adw]at h;obtain⟨l,hl,he⟩:=h;cases he;rw [hk]at cL;obtain⟨fa,hu,_⟩:=lL cL;rcases cF.lay with h | ⟨h,_⟩
   ·exact absurd h dR
   ·rw [pd hl]at h;exact⟨h,fun h=>(by cases h),fun _=>⟨fun cs=>by simp [C8,hu],by simp [hu]⟩⟩
 ·rename_i n e hk;split at h
  ·cases h
  ·rename_i dR;rw [adw]at h;obtain⟨l,hl,he⟩:=h;cases he;rw [hk]at cL;have hu:=mY cL;rcases cF.lay with h | ⟨h,_⟩
   ·exact absurd h dR
   ·rw [pd hl]at h;exact⟨h,fun h=>(by cases h),fun _=>⟨fun cs=>by simp [C8,hu],by simp [hu]⟩⟩
 ·cases h
theorem nO{ka:Bool}{k:SV}{kc:List SV}(h:si ka k=some kc){kl:List IntKind}{ks:List Int}(hk:ks.length=kl.length)(h1:ka=false→∃k,kl=[k])(hc:SV.aB ρ kc=wq kl ks):k.val ρ=dS ka kl ks:=by
 unfold si at h;split at h
 ·cases h;simp only [SV.val,hc,sj]
 ·rename_i q e;cases h;obtain⟨k0,rfl⟩:=h1 rfl
  match ks,hk,hc with
  | [x],_,hc=>
   have hc:[Value.int q (e.den ρ 0)]=[Value.int k0 x]:=hc;simp only [adF,and_true]at hc;exact hc
 ·cases h
theorem D9{d:Option TypeDesc}{k v:Nat}(h:gu d (.map k v)=true):d=some (.map k v):=by
 unfold gu at h;split at h<;>simp_all
theorem kC{hp:List Ck}{b j:Nat}{ck:Ck}(h:wz hp b=some (j,ck)):hp[j]? =some ck∧ck.isMap b=true:=by
 unfold wz at h;split at h
 ·rename_i i hi;rw [adw]at h;obtain⟨c,hc,he⟩:=h;cases he;refine⟨hc,?_⟩;rw [List.findIdx?_eq_some_iff_getElem]at hi;obtain⟨bP,h1,_⟩:=hi;rw [ad8 bP]at hc;cases hc;exact h1
 ·cases h
theorem xR{te:TI}{z:List bS}(h:tJ T te=some z): ∀i:Nat,rowAt ρ z i=SV.aB ρ te.zero:=by
 unfold tJ at h;split at h
 ·split at h
  ·rename_i hz;cases h;simp only [ai,List.isEmpty_iff]at hz;intro i;rw [hz.1];rfl
  ·cases h
 ·exact fun i=>(eC h).1 i
theorem cA: ∀{a b:List SV},eo a b=true→SV.aB ρ a=SV.aB ρ b
 | [],[],_=>rfl
 | [],_::_,h=>by simp [eo]at h
 | v::r,[],h=>by cases v<;>simp [eo]at h
 | v::r,u::s,h=>by
  unfold eo at h;split at h
  ·rename_i h1 _;cases h1
  ·rename_i h1 h2;cases h1;cases h2;simp only [ai,beq_iff_eq]at h;obtain⟨⟨rfl,rfl⟩,h⟩:=h;simp only [SV.aB,cA h]
  ·rename_i h1 h2;cases h1;cases h2;simp only [ai,beq_iff_eq]at h;obtain⟨rfl,h⟩:=h;simp only [SV.aB,cA h]
  ·rename_i h1 h2;cases h1;cases h2;simp only [ai,beq_iff_eq]at h;obtain⟨⟨⟨rfl,rfl⟩,rfl⟩,h⟩:=h;simp only [SV.aB,cA h]
  ·rename_i h1 h2;cases h1;cases h2;simp only [SV.aB,cA h]
  ·rename_i h1 h2;cases h1;cases h2;simp only [SV.aB,cA h]
  ·rename_i h1 h2;cases h1;cases h2;simp only [SV.aB,cA h]
  ·rename_i h1 h2;cases h1;cases h2;simp only [SV.aB,cA h]
  ·rename_i h1 h2;cases h1;cases h2;simp only [SV.aB,cA h]
  ·rename_i h1 h2;cases h1;cases h2;simp only [ai,beq_iff_eq]at h;obtain⟨rfl,h⟩:=h;simp only [SV.aB,cA h]
  ·cases h
theorem D_{k:Nat}{v:List SV}: ∀{es:List (Nat×List SV)} {q:Nat},o7 (zz k v es) q=if q=k then true else o7 es q
 | [],q=>by simp only [zz,o7,eq_comm]
 | (i,u)::r,q=>by
  simp only [zz];split
  ·rename_i h;subst h;simp only [o7,eq_comm];split<;>rfl
  ·rename_i h;simp only [o7];split
   ·rename_i h2;subst h2;rw [if_neg h]
   ·exact D_
theorem Ea{k:Nat}{v z:List SV}: ∀{es:List (Nat×List SV)} {q:Nat},mi (zz k v es) z q=if q=k then v else mi es z q
 | [],q=>by simp only [zz,mi,eq_comm]
 | (i,u)::r,q=>by
  simp only [zz];split
  ·rename_i h;subst h;simp only [mi,eq_comm];split<;>rfl
  ·rename_i h;simp only [mi];split
   ·rename_i h2;subst h2;rw [if_neg h]
   ·exact Ea
theorem tK(_:bC P T=true)(D2:ρ.bv.length=nb){t:Nat}{res:gx}(h:ri T nb t=some res):
  Did P ρ w hp S nb nv ((do pure (.value (←Instr.makeMap t none)):Sem Next).run P w) res:=by
 unfold ri at h;split at h
 ·rename_i kt vt sz Zm zr ly eN;split at h
  ·rename_i tk tv C7 Xd;split at h
   ·rename_i kl ka aH hk hz;cases h;refine⟨w.alloc (.map #[] 0),_,if_pos rfl,?_,⟨rfl,rfl,rfl,by simp⟩,by simp,fun k hk=>heap_alloc_old w _ hk,⟨fun k=>Iff.rfl,⟨#[],0,heap_alloc_new w _,?_⟩,?_⟩⟩
    ·subst D2;simp [Instr.makeMap,SV.val,jx]
    ·refine⟨by simp,by simp,fun ks _ hh=>by simp [E.den]at hh⟩
    ·intro ks _ _;split at hz
     ·cases hz
     ·exact xR (ρ:=ρ) hz _
   ·rename_i kl ka hk hz;cases h;refine⟨w.alloc (.map #[] 0),_,if_pos rfl,?_,⟨rfl,rfl,rfl,by simp⟩,by simp,fun k hk=>heap_alloc_old w _ hk,⟨fun k=>Iff.rfl,⟨#[],0,heap_alloc_new w _,?_⟩,?_⟩⟩
    ·subst D2;simp [Instr.makeMap,SV.val,jx]
    ·refine⟨by simp,by simp,fun ks _ hh=>by simp [o7]at hh⟩
    ·intro ks _ _;rfl
   ·cases h
  ·cases h
 ·cases h
theorem nP{agg:Bool}{cs:List SV}{v:SV}(h:hJ agg cs=some v):v.val ρ=xl agg (SV.aB ρ cs):=by
 obtain⟨h1,h2⟩:=lH ρ h;cases agg with
 | true=>rw [h1 rfl];rfl
 | false=>have:=h2 rfl;rw [this];rfl
theorem LL{ti:TI}(cF:jS P ti){i:TypeInfo}{z:Value}(hi:P.info? ti.t=some i)(hz:i.zero=some z)(hc:SV.aB ρ ti.zero=z.cells.toList):xl ti.k.agg (SV.aB ρ ti.zero)=z:=by
 have hg:=cF.zag i z hi hz;rw [hc];cases z with
 | agg cs=>simp only at hg;rw [hg];simp [xl,Value.cells]
 | _=>simp only [Bool.not_eq_true']at hg;rw [hg];simp [xl,Value.cells]
theorem vU(hT:bC P T=true){t:Nat}{x k:SV}{comma:Bool}{res:gx}(h:tL T hp t x k comma=some res)(cJ:Reads hp ρ w S res.rd):
  (Instr.lookup t (x.val ρ) (k.val ρ) comma).run P w= .ok (res.val.val ρ) w∧res.gg= .none:=by
 unfold tL at h;split at h
 ·rename_i kt vt sz Zm zr ly eN;obtain⟨ht,cF⟩:=aG hT eN;have hm:P.underlying t=some (.map kt vt):=by
   have:=cF.kind;rw [←ht];exact D9 this
  split at h
  ·rename_i tk tv C7 Xd;obtain⟨rfl,Un⟩:=aG hT Xd;obtain⟨iv,Zn,_,_,z,hz,zx⟩:=Un.info;have Xe:(zeroValue tv.t).run P w= .ok z w:=by simp [zeroValue,typeInfo,Zn,hz]
   have R7:=LL (ρ:=ρ) Un Zn hz (zx ρ);split at h
   ·rename_i kl ka cL;have hK:=qE hT C7 cL;split at h
    ·rename_i kc Wm;split at h
     ·rename_i KS a DW;split at h
      ·cases h
      ·rename_i KP;simp only [ne_eq,Decidable.not_not]at KP;subst KP;have R8:=nO (ρ:=ρ) (ks:=(List.range KS.length).map (a.den ρ)) Wm (by simp) (fun hk=>by obtain⟨k,h1,_⟩:=hK.one hk;exact⟨k,h1⟩) (fS DW);split at h
       ·rw [adw]at h;obtain⟨v,hv,rfl⟩:=h;refine⟨?_,rfl⟩;have FM:=nP (ρ:=ρ) hv;rw [R7]at FM;rw [R8];have:=xS (P:=P) (w:=w) hm hK (ks:=(List.range KS.length).map (a.den ρ)) (comma:=comma) (by simp) Xe;show(Instr.lookup t (.map none) _ comma).run P w=_;rw [this];cases comma<;>simp [SV.val,SV.vals,FM,BE.den]
       ·rename_i b;split at h
        ·rename_i j b' xT LM JG Aq has aH hf;split at h
         ·rename_i gK;obtain⟨rfl,rfl,rfl,oK⟩:=gK;split at h
          ·rename_i es BK;rw [adw]at h;obtain⟨v,hv,rfl⟩:=h;refine⟨?_,rfl⟩;obtain⟨hj,dD⟩:=kC hf;simp only [Ck.isMap,beq_iff_eq]at dD;subst dD;have hS:=cJ j (by simp) _ hj;have mG:=kX ρ BK;rw [pZ,Int.toNat_natCast]at mG;have FM:=nP (ρ:=ρ) hv;rw [mG]at FM;rw [R8];have Xf:=cA (ρ:=ρ) oK;rw [←Xf]at R7;have:=pf (P:=P) (w:=w) hm hK (ks:=(List.range xT.length).map (a.den ρ)) (comma:=comma) (by simp) hS Xe R7;show(Instr.lookup t (.map (some (ρ.bv.getD b 0))) _ comma).run P w=_;rw [this];cases comma with
           | false=>simp only [Bool.false_eq_true,if_false,FM]
           | true=>
            simp only [if_true,SV.val,SV.vals,FM,wm,dL,pZ,Int.toNat_natCast]
          ·cases h
         ·cases h
        ·rename_i j b' xT LM JG Aq es hf;split at h
         ·rename_i gK;obtain⟨rfl,rfl,rfl,oK⟩:=gK;split at h
          ·rename_i n R9;rw [adw]at h;obtain⟨v,hv,rfl⟩:=h;refine⟨?_,rfl⟩;obtain⟨hj,dD⟩:=kC hf;simp only [Ck.isMap,beq_iff_eq]at dD;subst dD;have hS:=cJ j (by simp) _ hj;rw [Ck.jX]at hS;have KT:n.toNat=cI ((List.range xT.length).map (a.den ρ)):=by
            have:=pZ (ρ:=ρ) xT.length a;rw [R9]at this;simp only [E.den]at this;rw [this,Int.toNat_natCast]
           have FM:=nP (ρ:=ρ) hv;rw [KT]at FM;rw [R8];have Xf:=cA (ρ:=ρ) oK;rw [←Xf]at R7;have:=pf (P:=P) (w:=w) hm hK (ks:=(List.range xT.length).map (a.den ρ)) (comma:=comma) (by simp) hS Xe R7;show(Instr.lookup t (.map (some (ρ.bv.getD b 0))) _ comma).run P w=_;rw [this];cases comma with
           | false=>simp only [Bool.false_eq_true,if_false,FM]
           | true=>simp only [if_true,SV.val,SV.vals,FM,BE.den,KT]
          ·cases h
         ·cases h
        ·cases h
       ·cases h
     ·cases h
    ·cases h
   ·cases h
  ·cases h
 ·cases h
theorem Ar{v:SV}{vs:List SV}(h:dO v=some vs):v.val ρ=xl (BS v) (SV.aB ρ vs):=by
 cases v with
 | agg cs=>
  simp only [dO]at h;split at h
  ·cases h;rfl
  ·cases h
 | cD k n a=>
  simp only [dO,SV.one,if_true,adv]at h;subst h;simp [SV.val,SV.aB,SV.cells,BS,xl]
 | opt c v=>simp [dO,SV.one]at h
 | undef=>simp [dO,SV.one]at h
 | oJ vs=>simp [dO,SV.one]at h
 | _=>
  simp only [dO,SV.one,if_true,adv]at h;subst h;rfl
theorem oo(hT:bC P T=true){t:Nat}{x k v:SV}{res:gx}(h:p7 T hp t x k v=some res)(cJ:Reads hp ρ w S res.rd):
  res.val= .undef∧∃j ck,res.gg= .set j ck∧∃w',(Instr.mapUpdate t (x.val ρ) (k.val ρ) (v.val ρ)).run P w= .ok () w'∧HR P w ρ hp S j ck w':=by
 unfold p7 at h;split at h
 ·rename_i kt vt sz Zm zr ly eN;obtain⟨ht,cF⟩:=aG hT eN;have hm:P.underlying t=some (.map kt vt):=by
   have:=cF.kind;rw [←ht];exact D9 this
  split at h
  ·rename_i tk tv C7 Xd;split at h
   ·rename_i kl ka cL;have hK:=qE hT C7 cL;split at h
    ·rename_i kc vs Wm An;split at h
     ·rename_i KS a b DW;split at h
      ·rename_i j b' xT LM JG zero has aH hf;split at h
       ·rename_i gK;obtain⟨rfl,rfl,rfl,Eb,hlen,zw⟩:=gK;split at h
        ·rename_i aT o5;cases h;have R8:=nO (ρ:=ρ) (ks:=(List.range xT.length).map (a.den ρ)) Wm (by simp) (fun hk=>by obtain⟨k,h1,_⟩:=hK.one hk;exact⟨k,h1⟩) (fS DW);obtain⟨hj,dD⟩:=kC hf;simp only [Ck.isMap,beq_iff_eq]at dD;subst dD;have hS:=cJ j (by simp) _ hj;obtain⟨p1,p2,p3,p4⟩:=iQ ρ o5;rw [pZ,Int.toNat_natCast]at p3 p4;have FM:=Ar (ρ:=ρ) An;rw [zw,←Eb]at FM;have Uo:rowAt ρ aT (cI ((List.range xT.length).map (a.den ρ)))=SV.aB ρ vs:=by
          rw [p4,List.drop_eq_nil_of_le,List.append_nil];rw [show(rowAt ρ aH _).length=bT aH from cY ρ aH _,bz];exact Nat.le_of_eq hlen.symm
         obtain⟨w',r1,r2,r3,r4,r5⟩:=pg (P:=P) (w:=w) hm hK (ks:=(List.range xT.length).map (a.den ρ)) (by simp) hS (v.val ρ) (SV.aB ρ vs) FM
          (Gs:=fun q=> !((E.rO has (O6 xT.length a) (.lit 1)).den ρ q==0)) (LN:=fun i=>(aT.map (bS.cells ρ)).flatMap fun c=>c i)
          (fun q=>by
           simp only [E.den,pZ,Int.toNat_natCast];split<;>simp_all)
          (fun q=>by
           split
           ·rename_i hq;rw [hq];exact Uo
           ·rename_i hq;exact p3 q hq)
         refine⟨rfl,j,_,rfl,w',?_,⟨⟨_,hj,rfl⟩,rfl,r2,r3,fun k hk=>r4 k (fun e=>hk ((hS.1 k).2 e)),r5⟩⟩;rw [R8];exact r1
        ·cases h
       ·cases h
      ·rename_i j b' xT LM JG zero es hf;split at h
       ·rename_i gK;obtain⟨rfl,rfl,rfl,Eb,zw⟩:=gK;split at h
        ·rename_i n R9;cases h;have R8:=nO (ρ:=ρ) (ks:=(List.range xT.length).map (a.den ρ)) Wm (by simp) (fun hk=>by obtain⟨k,h1,_⟩:=hK.one hk;exact⟨k,h1⟩) (fS DW);obtain⟨hj,dD⟩:=kC hf;simp only [Ck.isMap,beq_iff_eq]at dD;subst dD;have hS:=cJ j (by simp) _ hj;rw [Ck.jX]at hS;have KT:n.toNat=cI ((List.range xT.length).map (a.den ρ)):=by
          have:=pZ (ρ:=ρ) xT.length a;rw [R9]at this;simp only [E.den]at this;rw [this,Int.toNat_natCast]
         have FM:=Ar (ρ:=ρ) An;rw [zw,←Eb]at FM;obtain⟨w',r1,r2,r3,r4,r5⟩:=pg (P:=P) (w:=w) hm hK (ks:=(List.range xT.length).map (a.den ρ)) (by simp) hS (v.val ρ) (SV.aB ρ vs) FM
          (Gs:=fun q=>o7 (zz n.toNat vs es) q) (LN:=fun q=>SV.aB ρ (mi (zz n.toNat vs es) zero q))
          (fun q=>by rw [D_,←KT])
          (fun q=>by
           simp only [Ea,←KT];split<;>rfl)
         refine⟨rfl,j,_,rfl,w',?_,⟨⟨_,hj,rfl⟩,rfl,r2,r3,fun k hk=>r4 k (fun e=>hk ((hS.1 k).2 e)),by rw [Ck.jX];exact r5⟩⟩;rw [R8];exact r1
        ·cases h
       ·cases h
      ·cases h
     ·cases h
    ·cases h
   ·cases h
  ·cases h
 ·cases h
end
variable {P:Program} {w:World}
theorem zA(t ti ty e:TypeId)(kt:IntKind)(i:TypeInfo)(z:Value)(ht:P.underlying t=some (.slice e))(cF:P.underlying ti=some (.int kt))(hi:P.info? e=some i)(hz:i.zero=some z)
  (k:IntKind) (m:Nat) (g o:Nat) (n cap:Nat) (eL:0<i.size) (hm:0<m) (hw:IntKind.i64.wrap (m:Int)=m) (hb: ¬(2^48:Int)<(m:Int)*i.bytes) (o_:n+m≤cap) {w':World}
  (zi:(storeCells ⟨g,o+n*i.size,none⟩ (adX z.cells m).toList).run P w= .ok () w'):
  (ad2 #[t,ti] ty #[.slice (some ⟨g,o,none⟩) n cap,.int k (m:Int)]).run P w= .ok (.slice (some ⟨g,o,none⟩) (n+m) cap) w':=by
 have h0: ¬(m:Int)<0:=by omega
 have dR: ¬m*i.size=0:=Nat.ne_of_gt (Nat.mul_pos hm eL);have Up: ¬(281474976710656:Int)<(m:Int)*i.bytes:=hb;simp [ad2,run_underlying ht,run_underlying cF,sizeOf,typeInfo,zeroValue,hi,hz,asInt,asIntOf,hw,h0,Up,o_,dR,dV,zi]
theorem xU(t ti ty e:TypeId)(kt:IntKind)(i:TypeInfo)(z:Value)(ht:P.underlying t=some (.slice e))(cF:P.underlying ti=some (.int kt))(hi:P.info? e=some i)(hz:i.zero=some z)
  (k:IntKind) (m:Nat) (base:Option Addr) (n cap:Nat) (Uq:List Value) (hold:(Builtin.firstCells i.size n (.slice base n cap)).run P w.drew= .ok Uq.toArray w.drew)
  (eL:0<i.size) (hw:IntKind.i64.wrap (m:Int)=m) (hb: ¬(2^48:Int)<(m:Int)*i.bytes) (hg:cap<n+m) (hm:0<m) (N6:((n+m:Nat):Int)≤9223372036854775807) (q9:Builtin.nextslicecap (n+m) cap*i.bytes≤281474976710656):
  (ad2 #[t,ti] ty #[.slice base n cap,.int k (m:Int)]).run P w=
   .ok (.slice (some ⟨w.heap.size,0,none⟩) (n+m) (grownCap w (n+m) cap e))
    (w.drew.alloc (.cells (Uq.toArray++adX z.cells m++adX z.cells (grownCap w (n+m) cap e - (n+m))) e)):=by
 have h0: ¬(m:Int)<0:=by omega
 have dR: ¬m*i.size=0:=Nat.ne_of_gt (Nat.mul_pos hm eL);have Up: ¬(281474976710656:Int)<(m:Int)*i.bytes:=hb;have hn: ¬(n+m≤cap):=by omega
 have Xg: ¬(9223372036854775807<((n:Int)+(m:Int))):=by omega
 have Xh: ¬(281474976710656<Builtin.nextslicecap (n+m) cap*i.bytes):=by omega
 simp [ad2,run_underlying ht,run_underlying cF,sizeOf,typeInfo,zeroValue,hi,hz,asInt,asIntOf,hw,h0,Up,hn,Xg,Xh,dR,Question.forced,hold,newRow,grownCap]
theorem oq(t ti ty e:TypeId)(kt:IntKind)(i:TypeInfo)(z:Value)(size bytes:Nat)(ht:P.underlying t=some (.slice e))(cF:P.underlying ti=some (.int kt))(hi:P.info? e=some i)(hz:i.zero=some z)
  (iL:i.size=size) (s9:i.bytes=bytes) (oK:z.cells.size=size) (eL:0<size)
  (v:Value) (n:Nat) (xs:List Value) (cr:w.gN e size v n xs)
  (k:IntKind) (m:Nat) (h1: ∀u∈(adX z.cells m).toList,u.oneCell'=true) (N6:n+m≤140737488355328) (nL:(n+m)*bytes≤140737488355328):
  ∃v' w',(ad2 #[t,ti] ty #[v,.int k (m:Int)]).run P w= .ok v' w'∧w'.gN e size v' (n+m) (xs++(adX z.cells m).toList)∧w.grownBy w' v.ownBlock∧
   (v'.ownBlock=v.ownBlock∨v'.ownBlock=some w.heap.size):=by
 subst iL;subst s9;have hw:IntKind.i64.wrap (m:Int)=m:=tB .i64 _ (by show(-9223372036854775808:Int)≤_;omega) (by show _≤(9223372036854775807:Int);omega);have hmb:m*i.bytes≤140737488355328:=by
  rw [Nat.add_mul]at nL;omega
 have hb: ¬(2^48:Int)<(m:Int)*i.bytes:=by
  rw [←Int.natCast_mul];have:(2^48:Int)=281474976710656:=by decide
  omega
 have rJ:(adX z.cells m).toList.length=m*i.size:=by rw [Array.length_toList,size_zeroCells,oK]
 have hlen:(xs++(adX z.cells m).toList).length=(n+m)*i.size:=by rw [List.length_append,cr.1,rJ,Nat.add_mul]
 by_cases JD:m=0
 ·subst JD;have R4:(adX z.cells 0).toList=[]:=adR (by simpa using rJ);have QU:IntKind.i64.wrap 0=0:=hw;refine⟨v,w,?_,by rw [R4];simpa using cr,⟨rfl,rfl,rfl,Nat.le_refl _,fun _ _ _=>rfl⟩,.inl rfl⟩;rcases cr.2 with⟨rfl,rfl⟩ | ⟨g,o,cap,cur,rfl,_,CZ,_⟩
  ·simp [ad2,run_underlying ht,run_underlying cF,sizeOf,typeInfo,hi,asInt,asIntOf,QU]
  ·simp [ad2,run_underlying ht,run_underlying cF,sizeOf,typeInfo,hi,asInt,asIntOf,QU,CZ,storeCells]
 have hm:0<m:=by omega
 have grow: ∀(base:Option Addr) (cap:Nat),(Builtin.firstCells i.size n (.slice base n cap)).run P w.drew= .ok xs.toArray w.drew→cap<n+m→v= .slice base n cap→
   ∃v' w',(ad2 #[t,ti] ty #[v,.int k (m:Int)]).run P w= .ok v' w'∧w'.gN e i.size v' (n+m) (xs++(adX z.cells m).toList)∧w.grownBy w' v.ownBlock∧
   (v'.ownBlock=v.ownBlock∨v'.ownBlock=some w.heap.size):=by
  intro base cap hold hg hv;subst hv;have ig:=grownCap_ge w (n+m) cap e;have LH:grownCap w (n+m) cap e≤maxLen:=grownCap_le_maxLen w (n+m) cap e (by unfold maxLen;omega);have hr:=xU (P:=P) (w:=w) t ti ty e kt i z ht cF hi hz k m base n cap xs hold eL hw hb hg hm (by omega) (growslice_fits (by omega) nL);refine⟨_,_,hr,⟨hlen,.inr ⟨w.heap.size,0,_,_,rfl,⟨e,_,heap_alloc_new w.drew _,.zero _⟩,ig,LH,?_,?_⟩⟩,⟨rfl,rfl,rfl,by simp,fun k hk _=>heap_alloc_old w.drew _ hk⟩,Or.inr rfl⟩
  ·simp only [Array.size_append,List.size_toArray,size_zeroCells,oK,cr.1,←Nat.add_mul,Nat.zero_add];intro _;apply Nat.le_of_eq;congr 1;omega
  ·simp only [Array.toList_append,List.drop_zero];rw [←hlen];exact List.take_left
 rcases cr.2 with⟨rfl,rfl⟩ | ⟨g,o,cap,cur,rfl,⟨t',fz,hg,Gf⟩,CZ,NZ,mG,C7⟩
 ·have hx:xs=[]:=adR (by simpa using cr.1);subst hx;exact grow none 0 (by simp [Builtin.firstCells]) (by omega) rfl
 ·by_cases o_:n+m≤cap
  ·have mG:=mG (by omega);have hmul:(n+m)*i.size≤cap*i.size:=Nat.mul_le_mul_right _ o_;rw [Nat.add_mul]at hmul;have q9:o+n*i.size+(adX z.cells m).toList.length≤cur.size:=by omega
   have zi:=dZ (P:=P) g (o+n*i.size) t' fz (adX z.cells m).toList 0 cur w hg Gf (by simpa using q9) h1;simp only [Nat.add_zero]at zi;have hr:=zA (P:=P) (w:=w) t ti ty e kt i z ht cF hi hz k m g o n cap eL hm hw hb o_ zi;refine⟨_,_,hr,⟨hlen,.inr ⟨g,o,cap,_,rfl,⟨t',fz,setRow_heap w g cur _ t' _ hg,by refine Eq.mp (congrArg (qz · fz) ?_) Gf;simp only [List.size_toArray,List.length_append,List.length_take,List.length_drop,Array.length_toList]at q9 ⊢;omega⟩,o_,NZ,?_,?_⟩⟩,⟨rfl,rfl,rfl,by simp,fun k _ hk=>setRow_other w g k _ (fun e=>hk (by simp [Value.ownBlock,e]))⟩,Or.inl rfl⟩
   ·simp only [List.size_toArray,List.length_append,List.length_take,List.length_drop,Array.length_toList]at q9 ⊢;intro _;omega
   ·have:=o3 cur.toList (adX z.cells m).toList o (n*i.size) ((n+m)*i.size) (by rw [Nat.add_mul];omega) (by rw [Nat.add_mul];simp only [Array.length_toList]at q9 ⊢;omega);simp only;rw [this,List.take_take,Nat.min_eq_left (by rw [Nat.add_mul];omega),C7,rJ,←Nat.add_mul,List.drop_eq_nil_of_le (by rw [List.length_take];exact Nat.min_le_left _ _),List.append_nil]
  ·exact grow (some ⟨g,o,none⟩) cap (run_firstCells_some (P:=P) w.drew i.size n ⟨g,o,none⟩ n cap xs cr.1 (by simpa using iM cr)) (by omega) rfl
section
variable {ρ:Env} {hp:List Ck} {S:Nat→Nat→Prop} {nb nv:Nat} {T:List TI}
theorem zB(hT:bC P T=true){ts t':TypeId}{tt ti:TI}(eN:aU T ts=some tt)(Ur:aU T t'=some ti){kt:IntKind}(Wn:ti.k= .int kt){x:SV}{m:E}{res:gx}(h:BT T hp nv tt.k x m=some res)
  (cJ:Reads hp ρ w S res.rd) (bV: ∀b∈res.vcs,b.prop ρ) (k:IntKind) (ty:TypeId):
  Did P ρ w hp S nb nv ((do pure (.value (←ad2 #[ts,t'] ty #[x.val ρ,.int k (m.den ρ 0)])):Sem Next).run P w) res:=by
 unfold BT at h;split at h
 ·rename_i t v hk;split at h
  ·rename_i te j md t2 s n aH gi hj;split at h
   ·rename_i zc zx;split at h
    ·rename_i aT dP;split at h
     ·rename_i gK;obtain⟨rfl,hs,hw⟩:=gK;cases h;simp only at bV cJ;obtain⟨rfl,nQ⟩:=aG hT eN;obtain⟨rfl,cF⟩:=aG hT gi;obtain⟨rfl,Xi⟩:=aG hT Ur;have cL:=nQ.kind;rw [hk]at cL;have hu:=bI cL;have Us:=Xi.kind;rw [Wn]at Us;have Xj:=iR Us;obtain⟨i,hi,eL,s9,z,hz,hc⟩:=cF.info;have oK:z.cells.size=te.size:=by rw [←Array.length_toList,←hc ρ,bz,cF.zt]
      obtain⟨v1,v3⟩:=bB bV;obtain⟨v1,v2⟩:=bB v1;have v1:=a_ v1;have v2:=a_ v2;simp only [E.den]at v1 v2;obtain⟨z1,z2,z3⟩:=eC (ρ:=ρ) zx;have sm:(dp n m).den ρ 0=n.den ρ 0+m.den ρ 0:=bH ..;obtain⟨b1,b2⟩:=fV (n:=dp n m) (bytes:=te.bytes) (v3 _ (by simp)) (by rw [sm];omega);have k_:((dp n m).den ρ 0).toNat=(n.den ρ 0).toNat+(m.den ρ 0).toNat:=by rw [sm];omega
      rw [k_]at b1 b2;obtain⟨Xk,Xl⟩:=cK hj;have Xl:v=md:=by simpa [Ck.lI] using Xl
      subst Xl;obtain⟨cr,kf⟩:=cJ j (by simp) _ Xk;simp only [if_true]at cr;have N7:m.den ρ 0=(((m.den ρ 0).toNat:Nat):Int):=by omega
      have RW:(adX z.cells (m.den ρ 0).toNat).toList=aN ρ (m.den ρ 0).toNat zc:=by
       rw [sn zx,hc ρ];exact r9 _ _ (by omega)
      obtain⟨v',w',r1,r2,r3,r5⟩:=oq (P:=P) (w:=w) tt.t ti.t ty te.t kt i z te.size te.bytes hu Xj hi hz eL s9 oK z3 _ _ _ (by rw [←hs];exact cr) k (m.den ρ 0).toNat (by rw [RW];exact nN _ _) b2 b1;have eO:aN ρ ((dp n m).den ρ 0).toNat aT=aN ρ (n.den ρ 0).toNat aH++aN ρ (m.den ρ 0).toNat zc:=by
       rw [k_];obtain⟨c1,c2,c3⟩:=fc (ρ:=ρ) v1 v2 dP;rw [cg,fq];congr 1
       ·exact cy fun k hk=>by rw [c3,if_neg (by omega)]
       ·exact cy fun k hk=>by rw [c3,if_pos (by omega)];congr 1;omega
      refine⟨te.t,s,_,aT,v',w',fun k=>v'.ownBlock=some k,rfl,rfl,by rw [N7];simp only [SV.val,adL,r1,adC,ad_],?_,⟨_,Xk,rfl⟩,⟨r3.os,r3.tape,r3.output,r3.size⟩,?_,⟨?_,fun k=>⟨fun h=>⟨h,.inl rfl⟩,fun h=>h.1⟩⟩,?_⟩
      ·rcases r2.2 with⟨rfl,_⟩ | ⟨g,o,cap,cur,rfl,_⟩<;>rfl
      ·intro k hk hn;exact r3.block k hk fun he=>hn ((kf k).2 ⟨he.symm,.inl rfl⟩)
      ·simp only [if_true];rw [eO,k_,hs,←RW];exact r2
      ·intro k hk;rcases r5 with h | h
       ·left;rw [kf k,←h];exact⟨hk,.inl rfl⟩
       ·right;rw [hk]at h;cases h;exact⟨Nat.le_refl _,gn r2 hk⟩
     ·cases h
    ·cases h
   ·cases h
  ·cases h
 ·rename_i t hk;split at h
  ·rename_i te gi;split at h
   ·rename_i zc zx;split at h
    ·rename_i hw;cases h;simp only at bV;obtain⟨rfl,nQ⟩:=aG hT eN;obtain⟨rfl,cF⟩:=aG hT gi;obtain⟨rfl,Xi⟩:=aG hT Ur;have cL:=nQ.kind;rw [hk]at cL;have hu:=bI cL;have Us:=Xi.kind;rw [Wn]at Us;have Xj:=iR Us;obtain⟨i,hi,eL,s9,z,hz,hc⟩:=cF.info;have oK:z.cells.size=te.size:=by rw [←Array.length_toList,←hc ρ,bz,cF.zt]
     obtain⟨v2,v3⟩:=bB bV;have v2:=a_ v2;simp only [E.den]at v2;obtain⟨z1,z2,z3⟩:=eC (ρ:=ρ) zx;obtain⟨b1,b2⟩:=fV (n:=m) (bytes:=te.bytes) (v3 _ (by simp)) v2;have N7:m.den ρ 0=(((m.den ρ 0).toNat:Nat):Int):=by omega
     have RW:(adX z.cells (m.den ρ 0).toNat).toList=aN ρ (m.den ρ 0).toNat zc:=by
      rw [sn zx,hc ρ];exact r9 _ _ (by omega)
     obtain⟨v',w',r1,r2,r3,r5⟩:=oq (P:=P) (w:=w) tt.t ti.t ty te.t kt i z te.size te.bytes hu Xj hi hz eL s9 oK z3 (.slice none 0 0) 0 [] (js w te.t te.size) k (m.den ρ 0).toNat (by rw [RW];exact nN _ _) (by rw [Nat.zero_add];exact b2) (by rw [Nat.zero_add];exact b1);refine⟨te.t,te.size,_,zc,v',w',fun k=>v'.ownBlock=some k,rfl,rfl,by rw [N7];simp only [SV.val,adL,r1,adC,ad_],?_,⟨r3.os,r3.tape,r3.output,r3.size⟩,fun k hk=>r3.block k hk (by simp [Value.ownBlock]),⟨?_,fun k=>⟨fun h=>⟨h,.inl rfl⟩,fun h=>h.1⟩⟩,?_⟩
     ·rcases r2.2 with⟨rfl,_⟩ | ⟨g,o,cap,cur,rfl,_⟩<;>rfl
     ·simp only [if_true];rw [←RW];simpa using r2
     ·intro k hk;rcases r5 with h | h
      ·rw [hk]at h;cases h
      ·rw [hk]at h;cases h;exact⟨Nat.le_refl _,gn r2 hk⟩
    ·cases h
   ·cases h
  ·cases h
 ·cases h
end
end Go.RX
