/- Executor. -/
import Derived.Test.YtmgbbbmdbpbeeaaM12
open Go.Builtin renaming append_ → ad2
open Go.Result renaming andThen_ok → adC
open Go.Sem renaming run_bind → adL, run_pure → ad_
open Int renaming toNat → ag
open List renaming getElem?_eq_getElem → ad8, getElem?_eq_none → aef, map_cons → adT, mem_cons_of_mem → adB
open Option renaming map_eq_some_iff → adw
open Option.some renaming injEq → adv
namespace Go.RX
variable {P:Program} {w:World}
section
variable {ρ:Env} {hp:List Ck} {S:Nat→Nat→Prop} {nb nv:Nat} {T:List TI}
theorem oQ{b t:Nat}{cs:List Value}{S':Nat→Prop}(h:(aq b true cs).p w S')(hl:cs.length≤maxLen):w.gN t 1 (.slice (some ⟨b,0,none⟩) cs.length cs.length) cs.length cs:=by
 obtain⟨_,ty,fz,hb,hf⟩:=h;have:=hf rfl;subst this;refine⟨by omega,.inr ⟨b,0,cs.length,_,rfl,⟨ty,_,hb,.zero _⟩,Nat.le_refl _,hl,fun _=>by simp,by simp⟩⟩
theorem vZ(hT:bC P T=true){ts:TypeId}{tt:TI}(eN:aU T ts=some tt){x y:SV}{res:gx}(h:uk T hp nv tt.k x y=some res)
  (cJ:Reads hp ρ w S res.rd) (bV: ∀b∈res.vcs,b.prop ρ) (ty:TypeId):
  Did P ρ w hp S nb nv ((do pure (.value (←ad2 #[ts,ts] ty #[x.val ρ,y.val ρ])):Sem Next).run P w) res:=by
 unfold uk at h;split at h
 case h_2=>cases h
 rename_i t b ix s n m hk;split at h
 case h_2=>cases h
 rename_i te j b' cs q gi O4 YF hn;split at h
 case h_2=>cases h
 rename_i ki kl a sc JT iA;split at h
 case isFalse=>cases h
 rename_i hc;obtain⟨rfl,rfl,Kx,hq,LG⟩:=hc;rw [adw]at h;obtain⟨aT,dP,rfl⟩:=h;simp only at bV cJ;obtain⟨rfl,nQ⟩:=aG hT eN;obtain⟨rfl,cF⟩:=aG hT gi;have cL:=nQ.kind;rw [hk]at cL;have hu:=bI cL;obtain⟨i,hi,eL,s9,z,hz,YG⟩:=cF.info;have oK:z.cells.size=te.size:=by rw [←Array.length_toList,←YG ρ,bz,cF.zt]
 obtain⟨v1,v3⟩:=bB bV;obtain⟨v1,v2⟩:=bB v1;have v2:=a_ v2;simp only [E.den]at v2;have VS:n.den ρ 0=(q:Int):=cl (ρ:=ρ) hn;have VT:ix.den ρ 0=((0:Nat):Int):=cl (ρ:=ρ) YF;obtain⟨_,s2,s3⟩:=fe (te:=te) iA (fun j hj=>cJ j (adB _ hj)) v1 v2;have sm:(dp (.lit (q:Int)) sc.n).den ρ 0=(q:Int)+sc.n.den ρ 0:=by rw [bH];rfl
 obtain⟨b1,b2⟩:=fV (n:=dp (.lit (q:Int)) sc.n) (bytes:=te.bytes) (v3 _ (by simp)) (by rw [sm];omega);have k_:((dp (.lit (q:Int)) sc.n).den ρ 0).toNat=q+(sc.n.den ρ 0).toNat:=by rw [sm];omega
 rw [k_]at b1 b2;obtain⟨hj,dD⟩:=cH O4;simp only [Ck.qs,beq_iff_eq]at dD;subst dD;have hS:=cJ j (by simp) _ hj;have eO:SV.aB ρ cs=aj ki q (a.den ρ):=by
  have Qy:=fS (ρ:=ρ) JT;rw [LG,List.length_replicate,nG]at Qy;exact Qy
 have hlen:(SV.aB ρ cs).length=q:=by rw [eO,aF]
 have LI:(aq (ρ.bv.getD b 0) true (SV.aB ρ cs)).p w (S j):=hS;have cr:=oQ (t:=te.t) LI (by rw [hlen];unfold maxLen;omega);rw [hlen,eO]at cr;have kf: ∀k,S j k↔k=ρ.bv.getD b 0:=LI.1;obtain⟨v',w',r1,r2,r3,r5⟩:=mB (P:=P) (w:=w) tt.t ty te.t i z te.size te.bytes hu hi hz eL s9 oK (by omega) _ q _ (by rw [Kx];exact cr)
  _ _ _ s3 (by rw [cZ,s2]) (nN _ _) (by unfold maxLen;omega) b1
 have Gq:(SV.sl b ix 1 n n).val ρ= .slice (some ⟨ρ.bv.getD b 0,0,none⟩) q q:=by simp [SV.val,VS,VT]
 have Nu:aN ρ ((dp (.lit (q:Int)) sc.n).den ρ 0).toNat aT=aj ki q (a.den ρ)++aN ρ (sc.n.den ρ 0).toNat sc.aH:=by
  rw [k_];obtain⟨c1,c2,c3⟩:=fc (ρ:=ρ) (at_:= .lit (q:Int)) (by show(0:Int)≤(q:Int);omega) v2 dP;have YH:((E.lit (q:Int)).den ρ 0).toNat=q:=by show ag (q:Int)=q;omega
  rw [YH]at c3;rw [←dE ki q a,cg,fq];congr 1
  ·exact cy fun k hk=>by rw [c3,if_neg (by omega)]
  ·exact cy fun k hk=>by rw [c3,if_pos (by omega)];congr 1;omega
 refine⟨te.t,1,_,aT,v',w',fun k=>v'.ownBlock=some k,rfl,rfl,by rw [Gq];simp only [adL,r1,adC,ad_],?_,⟨_,hj,rfl⟩,⟨r3.os,r3.tape,r3.output,r3.size⟩,?_,⟨?_,fun k=>⟨fun h=>⟨h,.inl rfl⟩,fun h=>h.1⟩⟩,?_⟩
 ·rcases r2.2 with⟨rfl,_⟩ | ⟨g,o,cap,cur,rfl,_⟩<;>rfl
 ·intro k hk MM;refine r3.block k hk fun he=>MM ((kf k).2 ?_)
  simp only [Value.ownBlock,adv]at he;exact he
 ·simp only [if_true];rw [Nu,k_,←Kx];exact r2
 ·intro k hk;rcases r5 with h | h
  ·left;rw [hk]at h;simp only [Value.ownBlock,adv]at h;exact(kf k).2 h
  ·right;rw [hk]at h;cases h;exact⟨Nat.le_refl _,gn r2 hk⟩
theorem sV: ∀{cs:List SV} {l:List Nat},wK cs=some l→SV.aB ρ cs=l.map fun n=>(ρ.vv.getD n V1.nil).v
 | [],l,h=>by cases h;rfl
 | .vv i::r,l,h=>by
  simp only [wK,adw]at h;obtain⟨l',h',rfl⟩:=h;simp only [SV.aB,SV.cells,sV h',adT,List.singleton_append]
theorem qP{x:SV}{j:Nat}{l:List Nat}(h:sS hp x=some (j,l))(cJ:Reads hp ρ w S [j]):
  ∃b c,x.val ρ= .slice (some ⟨b,0,none⟩) l.length c∧∀(k:Nat) u,(l.map fun n=>(ρ.vv.getD n V1.nil).v)[k]? =some u→w.cell? ((⟨b,0,none⟩:Addr).add k)=some u:=by
 unfold sS at h;split at h
 case h_2=>cases h
 rename_i b i s n m;split at h
 case h_2=>cases h
 rename_i j' b' wr cs q hf hi hn;split at h
 case h_2=>cases h
 rename_i l' hl;split at h
 case isFalse=>cases h
 rename_i hq;cases h;obtain⟨hj,dD⟩:=cH hf;simp only [Ck.qs,beq_iff_eq]at dD;subst dD;have hS:(aq (ρ.bv.getD b 0) wr (SV.aB ρ cs)).p w (S j):=cJ j (by simp) _ hj;obtain⟨_,ty,fz,hg,_⟩:=hS;have VS:=cl (ρ:=ρ) hn;have VT:=cl (ρ:=ρ) hi;refine⟨ρ.bv.getD b 0,(m.den ρ 0).toNat,by simp [SV.val,VS,VT,hq],fun k u hu=>?_⟩;rw [←sV hl]at hu;rw [dV];simp only [World.cell?,hg];simpa using hu
theorem Qz(l:List Nat):aN ρ l.length [⟨.qV l,1,.lit 0⟩]=l.map fun n=>(ρ.vv.getD n V1.nil).v:=by
 unfold aN aK;simp only [adT,List.map_nil,List.flatMap_cons,List.flatMap_nil,List.append_nil,bS.cells,gX,List.range_one,adT,List.map_nil];rw [List.flatMap_def];apply List.ext_getElem?;intro k;have: ∀(g:Nat→Value) (n:Nat),(List.map (fun i=>[g i]) (List.range n)).flatten=(List.range n).map g:=by
  intro g n
  induction n with
  | zero=>rfl
  | succ n ih=>rw [List.range_succ,List.map_append,List.map_append,List.flatten_append,ih];simp
 rw [this fun i=>((l[i*1+0]?).elim V1.nil fun n=>ρ.vv.getD n V1.nil).v];rw [List.getElem?_map,List.getElem?_map];by_cases hk:k<l.length
 ·rw [List.getElem?_range hk,ad8 hk];simp [ad8 hk]
 ·rw [aef (by simp;omega),aef (by omega)];rfl
theorem wb(hT:bC P T=true){ts:TypeId}{tt:TI}(eN:aU T ts=some tt){x y:SV}{res:gx}(h:um T hp nv tt.k x y=some res)
  (cJ:Reads hp ρ w S res.rd) (ty:TypeId):
  Did P ρ w hp S nb nv ((do pure (.value (←ad2 #[ts,ts] ty #[x.val ρ,y.val ρ])):Sem Next).run P w) res:=by
 unfold um at h;split at h
 case h_2=>cases h
 rename_i t b ix s n m hk;split at h
 case h_2=>cases h
 rename_i te j l j' l' gi hx hy;split at h
 case isFalse=>cases h
 rename_i hc;obtain⟨rfl,Kx,dR,BN,C_⟩:=hc;cases h;simp only at cJ;obtain⟨rfl,nQ⟩:=aG hT eN;obtain⟨rfl,cF⟩:=aG hT gi;have cL:=nQ.kind;rw [hk]at cL;have hu:=bI cL;obtain⟨i,hi,eL,s9,z,hz,YG⟩:=cF.info;have oK:z.cells.size=te.size:=by rw [←Array.length_toList,←YG ρ,bz,cF.zt]
 obtain⟨xb,xc,Gq,YB⟩:=qP hx (fun k hk=>cJ k (by simp at hk;simp [hk]));obtain⟨yb,yc,Yz,YA⟩:=qP hy (fun k hk=>cJ k (by simp at hk;simp [hk]));have hxc:xc=l.length:=by
  have:(SV.sl b ix s n n).val ρ= .slice (some ⟨ρ.bv.getD b 0,(ix.den ρ 0).toNat*s,none⟩) (n.den ρ 0).toNat (n.den ρ 0).toNat:=rfl;rw [this]at Gq;simp only [Value.slice.injEq]at Gq;omega
 subst hxc;obtain⟨v',w',r1,r2,r3,r5⟩:=om (P:=P) (w:=w) tt.t ty te.t i z te.size te.bytes hu hi hz eL s9 oK ⟨xb,0,none⟩ l.length _ (by rw [List.length_map,Kx,Nat.mul_one]) YB
  ⟨yb,0,none⟩ l'.length yc (by omega) _ (by rw [List.length_map,Kx,Nat.mul_one]) YA (by unfold maxLen;omega) BN
 refine⟨te.t,1,_,_,v',w',fun k=>v'.ownBlock=some k,rfl,rfl,by rw [Gq,Yz];simp only [adL,r1,adC,ad_],?_,⟨r3.os,r3.tape,r3.output,r3.size⟩,fun k hk=>r3.block k hk (by simp),⟨?_,fun k=>⟨fun h=>⟨h,.inl rfl⟩,fun h=>h.1⟩⟩,?_⟩
 ·rcases r2.2 with⟨rfl,_⟩ | ⟨g,o,cap,cur,rfl,_⟩<;>rfl
 ·simp only [if_true];have e:((E.lit ((l.length+l'.length:Nat):Int)).den ρ 0).toNat=(l++l').length:=by
   show ag ((l.length+l'.length:Nat):Int)=_;rw [Int.toNat_natCast,List.length_append]
  rw [e,Qz,List.map_append,List.length_append,←Kx];exact r2
 ·intro k hk;rw [hk]at r5;cases r5;exact⟨Nat.le_refl _,gn r2 hk⟩
end
end Go.RX
