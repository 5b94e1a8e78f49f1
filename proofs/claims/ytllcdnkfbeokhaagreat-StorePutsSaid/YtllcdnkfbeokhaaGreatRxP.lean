/- Executor. -/
import Derived.Lib.OthersKept
import Derived.Test.YtllcdnkfbeokhaaGreatM11
import Derived.Lib.ConvBytes
import Derived.WalkSpells
open Array renaming ext' -> ayw
open Go.Builtin renaming append_ -> ayA
open Go.Op renaming equalIn -> ayp
open Go.Result renaming andThen_ok -> ax0
open Go.Sem renaming run_bind -> ax9, run_pure -> ayj
open Go.Value renaming int -> ayD
open Int renaming toNat -> ag, toNat_natCast -> ax3
open List renaming getD_cons_zero -> ah, getD_eq_getElem?_getD -> ayk, getElem?_eq_getElem -> ays, getElem?_eq_some_iff -> axT, map_cons -> ayr, map_toArray -> ayE, mem_cons_of_mem -> axZ, mem_cons_self -> axW, mem_filter -> ayi, mem_range -> ayc, mem_singleton -> ax2
open Option renaming getD_some -> ayG, map_eq_some_iff -> axV
open Option.some renaming injEq -> axU
namespace Go.RX
section
variable {P:Program} {ρ:Env} {w:World} {look:Nat->Option SV} {bF:Operand->Value} {hp:List Ck} {S:Nat->Nat->Prop} {nb nv:Nat} {T:List TI}
theorem cE{run:Result Next}{v:SV}{vcs:List BE}{rd:List Nat}(h:run= .ok (.value (v.val ρ)) w):Did P ρ w hp S nb nv run {val:=v,vcs:=vcs,rd:=rd}:=h
theorem eR{s:Sem Value}{v:SV}{vcs:List BE}{rd:List Nat}(h:s.run P w= .ok (v.val ρ) w):
  Did P ρ w hp S nb nv ((do pure (.value (<-s)):Sem Next).run P w) {val:=v,vcs:=vcs,rd:=rd}:=by
 apply cE;simp only[ax9,h,ax0,ayj]
theorem La{c:BE}{a b v:SV}(h:FE c a b=some v):v.val ρ=if c.den ρ then a.val ρ else b.val ρ:=by
 unfold FE at h;split at h
 .cases h;simp[BE.den]
 .cases h;simp[BE.den]
 .split at h
  .cases h;simp only[SV.val,pZ];cases c.den ρ<;>rfl
  .split at h
   .rename_i hg;cases h;subst hg;simp only[SV.val,pZ,dY];cases c.den ρ<;>rfl
   .cases h
  .split at h
   .rename_i hg;cases h;subst hg;simp only[SV.val,pZ];cases h:BE.den ρ _<;>simp
   .cases h
  .cases h
theorem PJ(hT:bD P T=true){t:TypeId}{tt:TI}(ji:aV T t=some tt){v:SV}{res:jf}(h:K5 hp tt.k v=some res)
  (dF:Reads hp ρ w S res.rd) (cA: ∀b∈res.vcs,b.prop ρ) (ty:TypeId):
  (Builtin.len_ #[t] ty #[v.val ρ]).run P w= .ok (res.val.val ρ) w/\res.jE= .none:=by
 unfold K5 at h;split at h
 .rename_i kt vt hk;have hm:P.underlying t=some (.map kt vt):=by
   obtain⟨ht,dZ⟩:=aE hT ji;have:=dZ.kind;rw[hk]at this;rw[<-ht];exact su this
  split at h
  .rename_i b;split at h
   .rename_i j b' nB zJ z_ zero has aB hf;cases h;obtain⟨hj,er⟩:=fF hf;simp only[Ck.isMap,beq_iff_eq]at er;subst er;obtain⟨_,⟨es,cl,hb,hc⟩,_⟩:=dF j (by simp) _ hj;refine⟨?_,rfl⟩;show(Builtin.len_ #[t] ty #[.map (some (ρ.bv.getD b 0))]).run P w=_;simp only[Builtin.len_,List.getElem?_toArray,List.getElem?_cons_zero,ax9,run_underlying hm,ax0,xM hb,ayj,SV.val,dp,eI,Int.toNat_zero,hc,goInt]
   .cases h
  .cases h;refine⟨?_,rfl⟩;show(Builtin.len_ #[t] ty #[.map none]).run P w=_;simp only[Builtin.len_,List.getElem?_toArray,List.getElem?_cons_zero,ax9,run_underlying hm,ax0,ayj,SV.val];rfl
  .cases h
 .rename_i e hk;split at h
  .rename_i b i s n m;cases h;have:=gI cA;refine⟨?_,rfl⟩;show(Builtin.len_ #[t] ty #[.slice (some ⟨ρ.bv.getD b 0,(i.den ρ 0).toNat*s,none⟩) (n.den ρ 0).toNat (m.den ρ 0).toNat]).run P w=_;rw[qU hT ji hk,goInt,Int.toNat_of_nonneg this];rfl
  .cases h;exact⟨qU hT ji hk _ _ _ _,rfl⟩
  .rename_i v;split at h
   .rename_i j md v' t' s n aB eX;cases h;obtain⟨hj,er⟩:=dy eX;simp only[Ck.og,beq_iff_eq]at er;subst er;have hS:=dF j (by simp) _ hj;have:=gI cA;obtain⟨ad,cp,he⟩:=Em hS;have e1:(SV.vv v).val ρ= .slice ad (n.den ρ 0).toNat cp:=he;refine⟨?_,rfl⟩;rw[e1,qU hT ji hk,SV.val,goInt,Int.toNat_of_nonneg this]
   .cases h
  .rename_i v cs s;split at h
   .rename_i r hr;cases h;simp only at cA dF;obtain⟨v1,v2⟩:=bM cA;have v2:=br v2;simp only[E.den]at v2;obtain⟨_,fx⟩:=gJ hr dF v1;obtain⟨_,_,_,a,c,k,_,_,hx,_⟩:=fx;refine⟨?_,rfl⟩;rw[hx,qU hT ji hk,SV.val,goInt,Int.toNat_of_nonneg v2]
   .cases h
  .cases h
 .rename_i hk;split at h
  .rename_i l;cases h;exact⟨AQ hT ji hk _ _,rfl⟩
  .rename_i s;cases h;have:=gI cA;refine⟨?_,rfl⟩;have e1:(SV.nX s).val ρ= .string ⟨(eB (s.den ρ)).toArray⟩:=rfl;rw[e1,AQ hT ji hk,SV.val,goInt];congr 2;have e:=Nq ρ s;simp only[ByteArray.size,List.size_toArray];omega
  .cases h
 .cases h
theorem zS(hT:bD P T=true)(iW:ρ.Ok){ts:TypeId}{tt:TI}(ji:aV T ts=some tt){x y:SV}{res:jf}(h:yr T hp nv tt.k x y=some res)
  (dF:Reads hp ρ w S res.rd) (cA: ∀b∈res.vcs,b.prop ρ) (ty:TypeId):
  Did P ρ w hp S nb nv ((do pure (.value (<-ayA #[ts,ts] ty #[x.val ρ,y.val ρ])):Sem Next).run P w) res:=by
 unfold yr at h;split at h
 .rename_i v b i s m cap;split at h
  .rename_i j v' t s' n aB j' b' wr cs h1 h2;split at h
   .rename_i aS te nq kZ;split at h
    .rename_i hc;obtain⟨rfl,rfl,hk,rfl,hw,hl,zF,lV,jR⟩:=hc;cases h;obtain⟨hj,er⟩:=dy h1;simp only[Ck.og,beq_iff_eq]at er;subst er;obtain⟨eF,UT⟩:=eV h2;simp only[Ck.xA,beq_iff_eq]at UT;subst UT;have DS:0<=n.den ρ 0:=gI λc hc=>cA c (List.mem_append_left _ hc)
     have JF:=cA _ (List.mem_append_right _ (ax2.2 rfl));have:=Et (P:=P) (w:=w) (nb:=nb) (nv:=nv) (cap:=(cap.den ρ 0).toNat) hT iW ji hk kZ jR zF hj (dF j (by simp) _ hj) eF (dF j' (by simp) _ eF) hw hl lV nq DS JF ty;have e1:(SV.sl b (.lit 0) s (.lit 1) cap).val ρ= .slice (some ⟨ρ.bv.getD b 0,0,none⟩) 1 (cap.den ρ 0).toNat:=by
      simp[SV.val,E.den]
     rw[e1];exact this
    .cases h
   .cases h
  .cases h
 .rename_i b i s m cap;split at h
  .rename_i j' b' wr cs t h2 hk;split at h
   .rename_i te aB kZ g_;split at h
    .rename_i aS nq;split at h
     .rename_i hc;obtain⟨rfl,rfl,hw,hl,zF,lV,jR,JF⟩:=hc;cases h;obtain⟨eF,UT⟩:=eV h2;simp only[Ck.xA,beq_iff_eq]at UT;subst UT;have e1:(SV.sl b (.lit 0) s (.lit 1) cap).val ρ= .slice (some ⟨ρ.bv.getD b 0,0,none⟩) 1 (cap.den ρ 0).toNat:=by
       simp[SV.val,E.den]
      rw[e1];exact xG (P:=P) (w:=w) (hp:=hp) (S:=S) (nb:=nb) (nv:=nv) hT iW ji hk kZ jR zF (dF j' (by simp) _ eF) hw hl lV nq JF ty
     .cases h
    .cases h
   .cases h
  .cases h
 .cases h
theorem yy{b:Nat}{cs:List Value}{S:Nat->Prop}(hS:(ak b true cs).p w S)(t e:TypeId)(ht:P.underlying t=some (.slice e))(he:P.underlying e=some (.int .u8))(o n c:Nat):
  ∃w',(convert t t (.slice (some ⟨b,o,none⟩) n c)).run P w= .ok (.slice (some ⟨b,o,none⟩) n c) w'/\jm w w'/\w'.heap.size=w.heap.size/\(∀k,k≠b->w'.heap[k]? =w.heap[k]?)/\(ak b false cs).p w' S:=by
 obtain⟨h1,ty,fz,hg,_⟩:=hS;have y_:w.shape? b=some (ty,cs.length):=by
  unfold World.shape?;rw[hg];simp
 refine⟨w.freeze ⟨b,cs.length,none⟩ 1,by simp[convert,run_underlying ht,run_underlying he,markStringish,y_],?_,?_,?_,h1,?_⟩
 .unfold World.freeze;rw[if_neg (by decide)];exact⟨rfl,rfl,rfl,by simp⟩
 .unfold World.freeze;rw[if_neg (by decide)];simp
 .intro k hk;unfold World.freeze;rw[if_neg (by decide)];simp[Array.getElem?_modify,Ne.symm hk]
 .unfold World.freeze;rw[if_neg (by decide)];obtain⟨lo,hi⟩:=fz;exact⟨ty,_,by simp only[Array.getElem?_modify,if_true,hg,Option.map_some];rfl,λh=>by cases h⟩
theorem pO{t:TypeId}{tt:TI}(hT:bD P T=true)(ji:aV T t=some tt)(hk:tt.k= .str)(l:List UInt8)(k:IntKind)(j:Int)(h0:0<=j)(h1:j.toNat<l.length):
  (Instr.index t (.string ⟨l.toArray⟩) (.int k j)).run P w= .ok (.int .u8 ((l.getD j.toNat 0).toNat:Nat)) w:=by
 obtain⟨rfl,hi⟩:=aE hT ji;have eJ:=hi.kind;rw[hk]at eJ;have hu:P.underlying tt.t=some .string:=by
  unfold ku at eJ;split at eJ<;>simp_all
 have hg:(⟨l.toArray⟩:ByteArray)[j.toNat]? =some (l.getD j.toNat 0):=by
  have cC:j.toNat<(⟨l.toArray⟩:ByteArray).size:=by simpa[ByteArray.size] using h1
  rw[getElem?_pos (⟨l.toArray⟩:ByteArray) j.toNat cC];simp only[List.getD,ays h1,ayG];rfl
 simp[Instr.index,asIntOf,run_underlying hu,h0,hg]
theorem tG{l:List BE}(h: ∀b∈l.filter (λb=>b != .lit true),b.prop ρ): ∀b∈l,b.prop ρ:=by
 intro b hb;by_cases hc:b= .lit true
 .subst hc;rfl
 .exact h b (ayi.2 ⟨hb,by simpa using hc⟩)
theorem FK{t:TypeId}{tt:TI}(hT:bD P T=true)(ji:aV T t=some tt)(hk:tt.k= .str){v:SV}{k:IntKind}{j:E}{res:jf}(h:K4 v j=some res)(cA: ∀b∈res.vcs,b.prop ρ):
  (Instr.index t (v.val ρ) (.int k (j.den ρ 0))).run P w= .ok (res.val.val ρ) w/\res.jE= .none:=by
 unfold K4 at h;split at h
 .rename_i l;split at h
  .rename_i i;split at h
   .rename_i hl;cases h;exact⟨pO hT ji hk l k _ (by simp[E.den]) (by simpa[E.den] using hl),rfl⟩
   .cases h
  .cases h;have h2:=tG cA;have q0:=of_decide_eq_true (jN ρ _ _▸(BE.bY ρ _).2 (h2 _ axW));have q1:=of_decide_eq_true (vD ρ _ _▸(BE.bY ρ _).2 (h2 _ (axZ _ axW)));simp only[eI]at q0 q1;refine⟨?_,rfl⟩;have e1:(SV.str l).val ρ= .string ⟨l.toArray⟩:=rfl;rw[e1,pO hT ji hk l k _ q0 (by omega),SV.val,dp,Ju]
 .rename_i s;cases h;have h2:=tG cA;have q0:=of_decide_eq_true (jN ρ _ _▸(BE.bY ρ _).2 (h2 _ axW));have q1:=of_decide_eq_true (vD ρ _ _▸(BE.bY ρ _).2 (h2 _ (axZ _ axW)));simp only[eI,ko]at q0 q1;refine⟨?_,rfl⟩;have cC:(j.den ρ 0).toNat<(s.den ρ 0).toNat:=by omega
  have e1:(SV.nX s).val ρ= .string ⟨(eB (s.den ρ)).toArray⟩:=rfl;rw[e1,pO hT ji hk _ k _ q0 (by rw[dW];exact cC),SV.val,dp,Ge];congr 2;simp[List.getD,pX _ cC,Nj]
 .cases h
theorem Cx{t:TypeId}{tt:TI}(_:bD P T=true)(_:aV T t=some tt)(_:tt.k= .str){v:SV}{l h:Option E}{res:jf}(hs:IT v l h=some res)
  {lo hi:Option Value} (_:kQ lo (l.map λe:E=>e.den ρ 0)) (_:kQ hi (h.map λe:E=>e.den ρ 0)) (_: ∀b∈res.vcs,b.prop ρ):
  (Instr.sliceAt t (v.val ρ) lo hi none).run P w= .ok (res.val.val ρ) w/\res.jE= .none:=by
 cases (show(none:Option _)=some _ from hs)
theorem adA{t:TypeId}(hu: ∃m,P.underlying t=some (.interface m))(d:Nat):(ayp (d+1) t .nilIface .nilIface).run P w= .ok true w:=by
 obtain⟨m,hu⟩:=hu;have yH:=run_underlying hu w;rw[ayp];simp only[ax9,yH,ax0];rfl
theorem adB{t t':TypeId}{v:Value}(hu: ∃m,P.underlying t=some (.interface m))(d:Nat):(ayp (d+1) t (.iface t' v) .nilIface).run P w= .ok false w:=by
 obtain⟨m,hu⟩:=hu;have yH:=run_underlying hu w;rw[ayp];simp only[ax9,yH,ax0];rfl
theorem Lc(x:Value): ∃t v,vw x= .iface t v:=by
 unfold vw;split<;>exact⟨_,_,rfl⟩
theorem FL{ti:TI}(dZ:lY P ti){op:BinOp}{xo yo:Operand}{a b:SV}{r:jf}(dF:Reads hp ρ w S r.rd)(h:Ci hp ti op a b=some r):
  (do eqGuard op ti.t xo yo (a.val ρ) (b.val ρ);binOp op ti.t (a.val ρ) (b.val ρ):Sem Value).run P w= .ok (r.val.val ρ) w/\r.jE= .none:=by
 have hk:=dZ.kind;unfold Ci at h;split at h
 .rename_i e i Jb;rw[Jb]at hk;split at h
  .rename_i j md v' t s n aB hf;obtain⟨hj,er⟩:=dy hf;simp only[Ck.og,beq_iff_eq]at er;subst er;split at h
   .cases h;have hS:=dF j (by simp) _ hj;obtain⟨ad,cp,hv⟩:=Em hS;have e1:(SV.vv i).val ρ= .slice ad (n.den ρ 0).toNat cp:=hv;refine⟨?_,rfl⟩;rw[e1];refine aR (dc _ _ _ _ _ _ rfl) ?_;have:=Lib.run_eql_slice_nil w ti.t e ad (n.den ρ 0).toNat cp 0 0 (cd hk);refine this.trans ?_;simp only[SV.val,BE.den];rw[show(ρ.vv.getD i V1.nil).v=_ from hv];cases ad<;>rfl
   .cases h;have hS:=dF j (by simp) _ hj;obtain⟨ad,cp,hv⟩:=Em hS;have e1:(SV.vv i).val ρ= .slice ad (n.den ρ 0).toNat cp:=hv;refine⟨?_,rfl⟩;rw[e1];refine aR (dc _ _ _ _ _ _ rfl) ?_;have:=run_neq_slice_nil_any w ti.t e ad (n.den ρ 0).toNat cp 0 0 (cd hk);refine this.trans ?_;simp only[SV.val,dY,BE.den];rw[show(ρ.vv.getD i V1.nil).v=_ from hv];cases ad<;>rfl
   .cases h
  .cases h
 .cases h
theorem FM{ti:TI}(dZ:lY P ti){op:BinOp}{xo yo:Operand}{a:SV}{r:jf}(h:Cj ti op yo a=some r):
  yo= .const .nilIface/\(do eqGuard op ti.t xo yo (a.val ρ) .nilIface;binOp op ti.t (a.val ρ) .nilIface:Sem Value).run P w= .ok (r.val.val ρ) w/\r.jE= .none:=by
 have hk:=dZ.kind;have hu:ti.k= .iface->∃m,P.underlying ti.t=some (.interface m):=by
  intro e;rw[e]at hk;unfold ku at hk;split at hk<;>simp_all
 have g1: ∀v,(eqGuard op ti.t xo (.const .nilIface) v .nilIface).run P w= .ok () w:=by
  intro v;cases op<;>cases v<;>simp[eqGuard]
 unfold Cj at h;split at h
 .rename_i Jb;have hu:=hu Jb;split at h
  .cases h;exact⟨rfl,aR (g1 _) (dN rfl λd=>adA hu d),rfl⟩
  .cases h;exact⟨rfl,aR (g1 _) (dO rfl λd=>adA hu d),rfl⟩
  .cases h
 .rename_i t' k' e' Jb;have hu:=hu Jb;have hv: ∀d,(ayp (d+1) ti.t ((SV.Qs t' k' e').val ρ) .nilIface).run P w= .ok false w:=λd=>adB hu d
  split at h
  .cases h;exact⟨rfl,aR (g1 _) (dN rfl hv),rfl⟩
  .cases h;exact⟨rfl,aR (g1 _) (dO rfl hv),rfl⟩
  .cases h
 .rename_i t' b' c' Jb;have hu:=hu Jb;have hv: ∀d,(ayp (d+1) ti.t ((SV.VJ t' b' c').val ρ) .nilIface).run P w= .ok false w:=λd=>adB hu d
  split at h
  .cases h;exact⟨rfl,aR (g1 _) (dN rfl hv),rfl⟩
  .cases h;exact⟨rfl,aR (g1 _) (dO rfl hv),rfl⟩
  .cases h
 .rename_i c v Jb;have hu:=hu Jb;obtain⟨t',x,hx⟩:=Lc (ρ.vv.getD v V1.nil).v;have hv: ∀d,(ayp (d+1) ti.t ((SV.Jp c v).val ρ) .nilIface).run P w= .ok (!c.den ρ) w:=by
   intro d;simp only[SV.val];cases c.den ρ with
   | true=>simp only[if_true,hx];exact adB hu d
   | false=>simp only[Bool.false_eq_true,if_false];exact adA hu d
  have CJ:binOp .eql ti.t ((SV.Jp c v).val ρ) .nilIface=(do pure (.bool (<-Op.equal ti.t ((SV.Jp c v).val ρ) .nilIface)):Sem Value):=by
   simp only[SV.val];cases c.den ρ with
   | true=>simp only[if_true,hx];rfl
   | false=>rfl
  have FX:binOp .neq ti.t ((SV.Jp c v).val ρ) .nilIface=(do pure (.bool (!(<-Op.equal ti.t ((SV.Jp c v).val ρ) .nilIface))):Sem Value):=by
   simp only[SV.val];cases c.den ρ with
   | true=>simp only[if_true,hx];rfl
   | false=>rfl
  split at h
  .cases h;refine⟨rfl,aR (g1 _) ?_,rfl⟩;rw[dN CJ hv];simp[SV.val,dY]
  .cases h;refine⟨rfl,aR (g1 _) ?_,rfl⟩;rw[dO FX hv];simp[SV.val]
  .cases h
 .cases h
theorem zT(w:World)(e:TypeId)(s:ByteArray):jm w (Lib.bytesWorld w e s):=by
 unfold Lib.bytesWorld World.freeze;rw[if_neg (by decide)];exact⟨rfl,rfl,rfl,by simp⟩
theorem Dh(w:World)(e:TypeId)(s:ByteArray):w.heap.size<(Lib.bytesWorld w e s).heap.size:=by rw[Lib.bytesWorld_size];omega
theorem yz(w:World)(e:TypeId)(s:E):
  World.views (Lib.bytesWorld w e ⟨(eB (s.den ρ)).toArray⟩) (.slice (some ⟨w.heap.size,0,none⟩) (s.den ρ 0).toNat (grownCap w (s.den ρ 0).toNat 0 e)) ((oa s).den ρ 0).toNat
   (aL ρ ((oa s).den ρ 0).toNat [⟨.int .u8,1,Np s⟩]):=by
 refine⟨_,_,_,rfl,by rw[ko],grownCap_ge ..,λh=>(nomatch h),λad had=>⟨λ_=>?_,λj u hu=>?_⟩⟩
 .cases had;rfl
 .cases had;rw[f_,bL,ko]at hu;split at hu
  .rename_i hj;have:=Lib.bytesWorld_cell w e ⟨(eB (s.den ρ)).toArray⟩ j (by simpa[ByteArray.size,dW] using hj);rw[jF,Nat.zero_add];cases hu;rw[this,Ge];congr 2;simp[List.getD,pX _ hj,Nj]
  .cases hu
theorem Di(hT:bD P T=true){src dst:TypeId}{ts ti:TI}(vM:aV T src=some ts)(hk:ts.k= .str)(dZ:aV T dst=some ti){v:SV}{res:jf}(h:bytesOf T nv ti.k v=some res)(cA: ∀b∈res.vcs,b.prop ρ):
  Did P ρ w hp S nb nv ((do pure (.value (<-convert src dst (v.val ρ))):Sem Next).run P w) res:=by
 obtain⟨rfl,Qf⟩:=aE hT vM;obtain⟨rfl,Qi⟩:=aE hT dZ;have eJ:=Qf.kind;rw[hk]at eJ;have hu1:P.underlying ts.t=some .string:=by
  unfold ku at eJ;split at eJ<;>simp_all
 unfold bytesOf at h;split at h
 .rename_i e he;split at h
  .rename_i te s kZ hs;split at h
   .rename_i hc;obtain⟨hu8,lZ⟩:=hc;cases h;obtain⟨rfl,Z6⟩:=aE hT kZ;have k2:=Qi.kind;rw[he]at k2;have hu2:=cd k2;have k3:=Z6.kind;rw[hu8]at k3;have hu3:=qm k3;have q0:=of_decide_eq_true (jN ρ _ _▸(BE.bY ρ _).2 (tG cA _ (ax2.2 rfl)));simp only[eI,ko]at q0;have hv:=ux ρ hs;have jT:=Lib.run_convert_string_bytes (P:=P) w ts.t ti.t te.t ⟨(eB (s.den ρ)).toArray⟩ hu1 hu2 hu3;have jR:(⟨(eB (s.den ρ)).toArray⟩:ByteArray).size=(s.den ρ 0).toNat:=by simp[ByteArray.size,dW]
    rw[jR]at jT;refine⟨te.t,1,oa s,[⟨.int .u8,1,Np s⟩],.slice (some ⟨w.heap.size,0,none⟩) (s.den ρ 0).toNat (grownCap w (s.den ρ 0).toNat 0 te.t),Lib.bytesWorld w te.t ⟨(eB (s.den ρ)).toArray⟩,λk=>k=w.heap.size/\0<(s.den ρ 0).toNat,rfl,rfl,by rw[hv,ax9,jT];rfl,rfl,?_,?_,?_,?_⟩
    .exact zT w te.t _
    .exact λk hk=>Lib.bytesWorld_at_old w te.t _ k hk
    .refine⟨?_,λk=>?_⟩
     .simp only[Bool.false_eq_true,if_false];exact⟨by rw[eL];simp[cm],yz w te.t s⟩
     .simp [Value.ownBlock,ko,eq_comm]
    .intro k hk;refine⟨by omega,?_⟩;rw[hk.1];exact Dh w te.t _
   .cases h
  .cases h
 .cases h
theorem Cy(_:bD P T=true){src dst:TypeId}{ts ti:TI}(_:aV T src=some ts)(_:ts.k= .str)(_:aV T dst=some ti){l:List UInt8}{res:jf}(h:IU T nv ti.k l=some res):
  Did P ρ w hp S nb nv ((do pure (.value (<-convert src dst ((SV.str l).val ρ))):Sem Next).run P w) res:=by
 cases (show(none:Option _)=some _ from h)
theorem PK(a:Addr)(k:Nat)(h:a.spot=none):(a.add k).spot=none:=by
 unfold Addr.add;split<;>simp_all
theorem xW{md:Bool}{t s n:Nat}{v:Value}{cs:List Value}{S:Nat->Prop}(h:(aA md t s v n cs).p w S):World.views w v n cs/\cs.length=n*s:=by
 obtain⟨h0,_⟩:=h;cases md with
 | true=>
  simp only[if_true]at h0;have YL:=h0;obtain⟨hl,hr⟩:=h0;refine⟨?_,hl⟩;rcases hr with⟨rfl,rfl⟩ | ⟨g,o,cap,cur,rfl,hg,Jr,_⟩
  .exact⟨none,0,0,rfl,rfl,Nat.le_refl _,λ_=>rfl,by simp⟩
  .refine⟨_,n,cap,rfl,rfl,Jr,by simp,?_⟩;rintro _ ⟨⟩;exact⟨λ_=>rfl,λj u hu=>nm YL j u hu⟩
 | false=>
  simp only[Bool.false_eq_true,if_false]at h0;exact⟨h0.2,h0.1⟩
theorem yA(ad:Addr)(l:List Value)(n:Nat)(hn:l.length=n)(h: ∀(j:Nat) v,l[j]? =some v->w.cell? (ad.add j)=some v):(loadCells ad n).run P w= .ok l.toArray w:=by
 subst hn;exact run_loadCells_list (P:=P) w ad l h
theorem kD{src dst e:TypeId}(hs:P.underlying src=some (.slice e))(he:P.underlying e=some (.int .u8))(hd:P.underlying dst=some .string){a:Option Addr}{m c:Nat}{f:Nat->Int}(h0:a=none->m=0)(hc: ∀ad,a=some ad->∀(j:Nat) u,(aj .u8 m f)[j]? =some u->w.cell? (ad.add j)=some u):
  (convert src dst (.slice a m c)).run P w= .ok (.string ⟨((List.range m).map λj=>UInt8.ofNat (f j).toNat).toArray⟩) w:=by
 rw[run_convert_bytes_string w src dst e a m c hs he hd];cases a with
 | none=>
  have:=h0 rfl;subst this;simp[Conv.bytesToString,ayj];rfl
 | some ad=>
  have hl:(loadCells ad m).run P w= .ok (((List.range m).map f).map (ayD .u8)).toArray w:=by
   rw[List.map_map];exact yA ad _ m (by simp) λj u hu=>hc ad rfl j u hu
  rw[run_bytesToString w ad m c _ hl,foldl_push_bytes,List.map_map];simp[ByteArray.empty,ByteArray.emptyWithCapacity,Function.comp_def];rfl
theorem IZ{t:TypeId}(h:ku (P.underlying t) .str=true):P.underlying t=some .string:=by
 unfold ku at h;split at h<;>simp_all
theorem pq(a n:E):eB ((tC a n).den ρ)=(List.range (n.den ρ 0).toNat).map λj=>UInt8.ofNat (a.den ρ j).toNat:=by
 unfold tC;split
 .rename_i k hk;have hn:=dg (ρ:=ρ) hk;split
  .rename_i l hl;have hl:=uH (ρ:=ρ) hl;subst hl;rw[hn,ax3];unfold eB;simp only[E.den,ah,ax3];refine List.map_congr_left λj hj=>?_
   have hj:=ayc.1 hj;simp[hj]
  .exact uy ρ a n
 .exact uy ρ a n
theorem Dj{src dst e:TypeId}(hs:P.underlying src=some (.slice e))(he:P.underlying e=some (.int .u8))(hd:P.underlying dst=some .string){v:SV}{res:jf}(h:FH hp v=some res)(dF:Reads hp ρ w S res.rd)(cA: ∀b∈res.vcs,b.prop ρ):
  Did P ρ w hp S nb nv ((do pure (.value (<-convert src dst (v.val ρ))):Sem Next).run P w) res:=by
 unfold FH at h;split at h
 .cases h;refine eR ?_;exact kD (P:=P) (w:=w) (a:=none) (m:=0) (c:=0) (f:=λ_=>0) hs he hd (λ_=>rfl) λ_ h=>nomatch h
 .rename_i b i n m;split at h
  .rename_i j b' wr cs i' n' hf hi hn;split at h
   .rename_i xs Jw;split at h
    .rename_i kl a Wh;split at h
     .rename_i Ny;cases h;obtain⟨hj,er⟩:=eV hf;simp only[Ck.xA,beq_iff_eq]at er;subst er;have hS:=dF j (by simp) _ hj;obtain⟨h1,ty,fz,hg,_⟩:=hS;have hi:=dg (ρ:=ρ) hi;have hn:=dg (ρ:=ρ) hn;refine eR ?_;have hcx:=kN (ρ:=ρ) Wh;rw[Ny,List.length_replicate,vG]at hcx;obtain⟨Jy,hle⟩:=fy (ρ:=ρ) Jw;rw[Jy]at hcx;rw[pW,pq,eI,ax3];have e1:(SV.sl b i 1 n m).val ρ= .slice (some ⟨ρ.bv.getD b 0,i',none⟩) n' (m.den ρ 0).toNat:=by simp[SV.val,hi,hn]
      rw[e1];refine kD (P:=P) (w:=w) (f:=a.den ρ) hs he hd (λh=>nomatch h) ?_;rintro _ ⟨⟩ j u hu;rw[<-hcx,List.getElem?_take]at hu;split at hu
      .rw [List.getElem?_drop]at hu;rw[jF];simp only[World.cell?,hg];simpa using hu
      .cases hu
     .cases h
    .cases h
   .cases h
  .rename_i j b' wr m' a hf hi hn;cases h;obtain⟨hj,er⟩:=eV hf;simp only[Ck.xA,beq_iff_eq]at er;subst er;have hS:=dF j (by simp) _ hj;obtain⟨h1,ty,fz,hg,_⟩:=hS;have hi:=dg (ρ:=ρ) hi;have hle:=of_decide_eq_true (jN ρ _ _▸(BE.bY ρ _).2 (tG cA _ (ax2.2 rfl)));simp only[eI]at hle;refine eR ?_;rw[pW,pq];have e1:(SV.sl b i 1 n m).val ρ= .slice (some ⟨ρ.bv.getD b 0,0,none⟩) (n.den ρ 0).toNat (m.den ρ 0).toNat:=by simp[SV.val,hi]
   rw[e1];refine kD (P:=P) (w:=w) (f:=a.den ρ) hs he hd (λh=>nomatch h) ?_;rintro _ ⟨⟩ j u hu;obtain⟨cC,_⟩:=axT.1 hu;rw[aH]at cC;rw[jF];simp only[World.cell?,hg];rw[<-hu,bL,if_pos cC];have ec:SV.aq ρ [SV.jD .u8 m' a]=aj .u8 m' (a.den ρ):=by simp[SV.aq,SV.cells]
   rw[ec,Nat.zero_add,List.getElem?_toArray,bL,if_pos (show j<m' by omega)];rfl
  .cases h
 .rename_i v;split at h
  .rename_i j md v' t n a hf;cases h;obtain⟨hj,er⟩:=dy hf;simp only[Ck.og,beq_iff_eq]at er;subst er;have hS:=dF j (by simp) _ hj;have hv:=(xW hS).1;rw[f_]at hv;obtain⟨a',m',c',e1,e2,_,h0,hc⟩:=hv;refine eR ?_;rw[pW,pq];rw[show(SV.vv v).val ρ= .slice a' m' c' from e1,<-e2];exact kD (P:=P) (w:=w) hs he hd (λh=>e2.trans (h0 h)) λad had j u hu=>(hc ad had).2 j u (by rw[<-e2];exact hu)
  .cases h
 .rename_i v cs s;split at h
  .rename_i r hr;split at h
   .rename_i a y_;split at h
    .rename_i iD;obtain⟨lZ,hw⟩:=iD;cases h;simp only at cA dF;obtain⟨v1,v2⟩:=bM cA;have v2:=br v2;simp only[E.den]at v2;have aoP:=Gz hr dF v1 v2 hw y_;obtain⟨_,_,a',c',e1,h0,hc⟩:=aoP;rw[f_]at hc;refine eR ?_;rw[pW,pq,e1];exact kD (P:=P) (w:=w) hs he hd h0 λad had j u hu=>hc ad had j u hu
    .cases h
   .cases h
  .cases h
 .cases h
theorem lP(hT:bD P T=true){src dst:TypeId}{ti:TI}(dZ:aV T dst=some ti)(hk:ti.k= .str){v:SV}{res:jf}(h:qD T hp src v=some res)(dF:Reads hp ρ w S res.rd)(cA: ∀b∈res.vcs,b.prop ρ):
  Did P ρ w hp S nb nv ((do pure (.value (<-convert src dst (v.val ρ))):Sem Next).run P w) res:=by
 unfold qD at h;split at h
 .rename_i ts vM;split at h
  .rename_i e he;split at h
   .rename_i te kZ;split at h
    .rename_i hu8;obtain⟨rfl,Qf⟩:=aE hT vM;obtain⟨rfl,Qi⟩:=aE hT dZ;obtain⟨rfl,hi3⟩:=aE hT kZ;have k1:=Qf.kind;rw[he]at k1;have k2:=Qi.kind;rw[hk]at k2;have k3:=hi3.kind;rw[hu8]at k3;exact Dj (cd k1) (qm k3) (IZ k2) h dF cA
    .cases h
   .cases h
  .cases h
 .cases h
theorem zU(hT:bD P T=true)(iW:ρ.Ok){t t':TypeId}{tt:TI}(ji:aV T t=some tt){v u:SV}{res:jf}(h:yv T hp nv tt t t' v u=some res)
  (dF:Reads hp ρ w S res.rd) (cA: ∀b∈res.vcs,b.prop ρ) (ty:TypeId):
  Did P ρ w hp S nb nv ((do pure (.value (<-ayA #[t,t'] ty #[v.val ρ,u.val ρ])):Sem Next).run P w) res:=by
 unfold yv at h;split at h
 .rename_i heq;subst heq;split at h
  .rename_i r hr;cases h;exact zS (P:=P) (w:=w) (nb:=nb) hT iW ji hr dF cA ty
  .split at h
   .rename_i r hr;cases h;exact yx hT ji hr dF cA ty
   .split at h
    .rename_i r hr;cases h;exact zL hT ji hr dF cA ty
    .exact zM hT ji h dF ty
 .split at h
  .rename_i ti kk m dZ;split at h
   .rename_i kt hkt;exact CY hT ji dZ hkt h dF cA kk ty
   .cases h
  .cases h
theorem sB(hT:bD P T=true)(iW:ρ.Ok)(uG:vJ ρ look bF){o:Oper}{res:jf}(h:ep T look hp nb nv o=some res)
  (dF:Reads hp ρ w S res.rd) (cA: ∀b∈res.vcs,b.prop ρ) (Er:ρ.bv.length=nb):Did P ρ w hp S nb nv ((execOp bF o).run P w) res:=by
 obtain⟨dst,op,ty,pos,aft,gd⟩:=o;have ev: ∀{x v},kO look x=some v->bF x=v.val ρ:=λh=>eW uG h
 cases op with
 | move x=>
  simp only[ep,axV]at h;obtain⟨v,hv,rfl⟩:=h;exact cE (by simp[execOp,ev hv])
 | assign x=>
  simp only[ep,axV]at h;obtain⟨v,hv,rfl⟩:=h;exact cE (by simp[execOp,ev hv])
 | pick c a b=>
  simp only[ep]at h;split at h
  .rename_i c' a' b' hc ha hb;rw[axV]at h;obtain⟨v,hv,rfl⟩:=h;refine cE ?_;rw[La hv];simp[execOp,ev hc,ev ha,ev hb,SV.val,asBool]
  .cases h
 | alloc t=>
  simp only[ep,Option.bind_eq_some_iff]at h;obtain⟨ti,dZ,h⟩:=h;split at h
  .split at h
   .rename_i hz;cases h;exact NH hT Er dZ _ (cz hz)
   .cases h
  .cases h;exact Gs hT Er dZ
 | box t x=>
  simp only[ep]at h;split at h
  .rename_i v hv;rw[axV]at h;obtain⟨cs,nY,rfl⟩:=h;have:=NI (P:=P) (w:=w) (hp:=hp) (S:=S) (nv:=nv) iW Er (t:=t) nY;simp only[execOp,ev hv];exact this
  .cases h
 | build t parts=>
  simp only[ep]at h;split at h
  .rename_i ti ps dZ N4;have hm:gT ρ ps (parts.map λx=>(x.1,bF x.2)).toList:=by
    rw[Array.toList_map];exact qT uG iW _ _ N4
   split at h
   .rename_i fs hk;split at h
    .rename_i oO;rw[axV]at h;obtain⟨cs,nY,rfl⟩:=h;have:=uE (w:=w) hT dZ hk oO hm nY;exact eR this
    .cases h
   .rename_i n e hk;split at h
    .rename_i te kZ;rw[axV]at h;obtain⟨cs,nY,rfl⟩:=h;have:=zC (w:=w) hT dZ hk kZ hm nY;exact eR this
    .cases h
   .cases h
  .cases h
 | buildSlice t len parts=>
  simp only[ep]at h;split at h
  .rename_i ti ps dZ N4;have hm:gT ρ ps (parts.map λx=>(x.1,bF x.2)).toList:=by
    rw[Array.toList_map];exact qT uG iW _ _ N4
   split at h
   .rename_i e hk;split at h
    .rename_i te kZ;split at h
     .rename_i zB;split at h
      .rename_i Jj;rw[axV]at h;obtain⟨zc,Gt,rfl⟩:=h;have adC:(parts.map λx=>(x.1,bF x.2))= #[]:=by
        have:ps=[]:=by simpa using Jj
        subst this;apply ayw;generalize (parts.map λx=>(x.1,bF x.2)).toList=l at hm;cases hm;rfl
       have:=Cv (P:=P) (w:=w) (hp:=hp) (S:=S) (nb:=nb) (nv:=nv) (ρ:=ρ) hT dZ hk kZ Gt;simp only[execOp,zB,adC];exact this
      .cases h
     .split at h
      .cases h
      .rename_i zB hlen;rw[axV]at h;obtain⟨cs,nY,rfl⟩:=h;exact xC hT Er dZ hk kZ (by rintro (h | h | h);exact zB h;exact hlen (.inl h);exact hlen (.inr h)) hm nY
    .cases h
   .cases h
  .cases h
 | load t x=>
  simp only[ep]at h;split at h
  .rename_i ti a dZ ha;obtain⟨rfl,hi⟩:=aE hT dZ;obtain⟨h1,h2⟩:=tU hi h dF cA;obtain⟨rv,UU,Yv,re⟩:=res;simp only at h2;subst h2;refine cE ?_;simp only[execOp,ev ha,ax9,h1,ax0,ayj]
  .cases h
 | store t x y=>
  simp only[ep]at h;split at h
  .rename_i ti a v dZ ha hv;obtain⟨rfl,hi⟩:=aE hT dZ;obtain⟨h1,j,ck,h2,w',h3,h4⟩:=AI hi h iW dF cA;unfold Did;rw[h2];refine⟨w',.inr ⟨h1,?_⟩,h4⟩;simp only[execOp,ev ha,ev hv,ax9,h3,ax0,ayj]
  .cases h
 | nilCheck x=>
  simp only[ep]at h;split at h
  .rename_i b c hx;cases h;exact cE (by simp[execOp,ev hx,SV.val])
  .rename_i b c hx;cases h;exact cE (by simp[execOp,ev hx,SV.val])
  .rename_i e hx;cases h;have hz:=cA (VO e) (by simp);have fL:e.den ρ 0≠0:=by
    rw[<-BE.bY,zW]at hz;simpa using hz
   exact cE (by simp[execOp,ev hx,SV.val,dr,fL])
  .rename_i v i s c hx;split at h
   .rename_i j md v' t s' n aB hf;cases h;obtain⟨hj,er⟩:=dy hf;simp only[Ck.og,beq_iff_eq]at er;subst er;have hS:=dF j (by simp) _ hj;obtain⟨h0,h1⟩:=dR ρ cA;obtain⟨a,cp,he⟩:=oe hS (by omega);have e2:(SV.pv v i s c).val ρ= .pointer (some (a.add ((i.den ρ 0).toNat*s+c))):=by rw[SV.val,he];rfl
    refine cE ?_;simp only[execOp,ev hx,e2,ayj]
   .cases h
  .rename_i f cs hx;cases h;exact cE (by simp[execOp,ev hx,SV.val])
  .cases h
 | binOp op t x y yt=>
  simp only[ep]at h;split at h
  .rename_i ti a b dZ ha hb;obtain⟨rfl,hi⟩:=aE hT dZ;split at h
   .rename_i r hr;cases h;have hr2:=FM (P:=P) (w:=w) (ρ:=ρ) hi (xo:=x) hr;obtain⟨e1,h1,h2⟩:=hr2;subst e1;obtain⟨rv,UU,Yv,re⟩:=res;simp only at h2;subst h2;refine cE ?_;have hy:bF (.const .nilIface)= .nilIface:=by
     have:kO look (.const .nilIface)=some .pT:=rfl;exact ev this
    simp only[execOp,ev ha,hy];rw[ax9,h1];rfl
   split at h
   .rename_i r hr;cases h;obtain⟨h1,h2⟩:=FL (P:=P) (w:=w) (ρ:=ρ) hi (xo:=x) (yo:=y) dF hr;obtain⟨rv,UU,Yv,re⟩:=res;simp only at h2;subst h2;refine cE ?_;simp only[execOp,ev ha,ev hb];rw[ax9,h1];rfl
   obtain⟨h1,h2⟩:=ND hi (w:=w) (xo:=x) (yo:=y) h cA;obtain⟨rv,UU,Yv,re⟩:=res;simp only at h2;subst h2;refine cE ?_;simp only[execOp,ev ha,ev hb];rw[ax9,h1];rfl
  .cases h
 | unOp op t x=>
  simp only[ep]at h;split at h
  .rename_i b hb;cases h;refine cE ?_;simp[execOp,ev hb,SV.val,Op.unary,dY]
  .rename_i k a ha;cases h;refine cE ?_;simp only[SV.val,mE,E.den];cases k<;>simp[execOp,ev ha,SV.val,Op.unary,Op.intBits,IntKind.signed,IntKind.max,xe,IntKind.hi,ar,Qr,IntKind.bits]
  .rename_i k a ha;simp only[axU]at h;subst h;refine cE ?_;simp only[SV.val,AK cA,gD,E.den];simp[execOp,ev ha,SV.val,Op.unary,Op.intArith]
  .cases h
 | convert src dst x=>
  simp only[ep]at h;split at h
  .rename_i ZM Yw k' a h1 h2 ha;split at h
   .rename_i k hk;cases h;obtain⟨rfl,Qf⟩:=aE hT h1;obtain⟨rfl,Qi⟩:=aE hT h2;have eJ:=Qi.kind;rw[hk]at eJ;have hu:=qm eJ;have hu1:(P.underlying ZM.t).isSome=true:=by
     have:=Qf.kind;unfold ku at this;split at this<;>simp_all
    have hik:P.intKind Yw.t=k:=by simp[Program.intKind,hu]
    refine eR ?_;rw[ev ha,SV.val,run_convert_int w ZM.t Yw.t k' _ hu1 (by rw[hik];exact hu),hik,SV.val,NA cA]
   .cases h
  .rename_i ZM Yw l h1 h2 ha;split at h
   .rename_i hk;have:=Cy (P:=P) (w:=w) (hp:=hp) (S:=S) (nb:=nb) (ρ:=ρ) hT h1 hk h2 h;simp only[execOp,ev ha];exact this
   .cases h
  .rename_i ZM Yw l h1 h2 ha;split at h
   .rename_i hk;have:=Di (P:=P) (w:=w) (hp:=hp) (S:=S) (nb:=nb) (ρ:=ρ) hT h1 hk h2 h cA;simp only[execOp,ev ha];exact this
   .cases h
  .rename_i ZM Yw b i s n m h1 h2 ha;split at h
   .rename_i e hk;split at h
    .rename_i te j b' cs kZ hf;split at h
     .rename_i hc;obtain⟨rfl,hu8⟩:=hc;cases h;obtain⟨e2,Qi⟩:=aE hT h2;subst e2;obtain⟨rfl,Z6⟩:=aE hT kZ;have eJ:=Qi.kind;rw[hk]at eJ;have hu:=cd eJ;have EA:=Z6.kind;rw[hu8]at EA;have hue:=qm EA;obtain⟨hj,er⟩:=eV hf;simp only[Ck.xA,beq_iff_eq]at er;subst er;have hS:=dF j (by simp) _ hj;obtain⟨w',r1,r2,r3,r4,r5⟩:=yy (P:=P) hS Yw.t te.t hu hue ((i.den ρ 0).toNat*s) (n.den ρ 0).toNat (m.den ρ 0).toNat;refine⟨w',.inl ?_,⟨⟨_,hj,rfl⟩,rfl,r2,r3,λk hk=>r4 k λe=>hk ((hS.1 k).2 e),r5⟩⟩;simp only[execOp,ev ha,SV.val,ax9,r1,ax0,ayj]
     .cases h
    .cases h
   .rename_i hk;have:=lP (P:=P) (w:=w) (ρ:=ρ) (nb:=nb) (nv:=nv) hT h2 hk h dF cA;simp only[execOp,ev ha];exact this
   .cases h
  .rename_i ZM Yw v h1 h2 ha;split at h
   .rename_i hk;have:=lP (P:=P) (w:=w) (ρ:=ρ) (nb:=nb) (nv:=nv) hT h2 hk h dF cA;simp only[execOp,ev ha];exact this
   .cases h
  .rename_i ZM Yw v cs s h1 h2 ha;split at h
   .rename_i hk;have:=lP (P:=P) (w:=w) (ρ:=ρ) (nb:=nb) (nv:=nv) hT h2 hk h dF cA;simp only[execOp,ev ha];exact this
   .cases h
  .rename_i ZM Yw h1 h2 ha;split at h
   .rename_i hk;have:=lP (P:=P) (w:=w) (ρ:=ρ) (nb:=nb) (nv:=nv) hT h2 hk h dF cA;simp only[execOp,ev ha];exact this
   .cases h
  .cases h
 | makeInterface t x=>
  simp only[ep]at h;split at h
  .rename_i ti k e dZ hx;split at h
   .rename_i hk;cases h;obtain⟨rfl,hi⟩:=aE hT dZ;have eJ:=hi.kind;rw[hk]at eJ;have hu:=qm eJ;refine cE ?_;have hc:P.concrete ti.t=true:=by simp[Go.Program.concrete,hu]
    simp only[execOp,ev hx,ax9,run_makeInterface w ti.t _ hc,ax0,ayj,SV.val]
   .cases h
  .rename_i ti b c dZ hx;split at h
   .rename_i e hk;cases h;obtain⟨rfl,hi⟩:=aE hT dZ;have eJ:=hi.kind;rw[hk]at eJ;have hu:=fZ eJ;refine cE ?_;have hc:P.concrete ti.t=true:=by simp[Go.Program.concrete,hu]
    simp only[execOp,ev hx,ax9,run_makeInterface w ti.t _ hc,ax0,ayj,SV.val]
   .cases h
  .cases h
 | sliceToArrayPointer arr x=>
  simp only[ep]at h;split at h
  .rename_i ta v hta hv;split at h
   .rename_i n e hk;split at h
    .rename_i te kZ;split at h
     .cases h
     .rename_i DS;obtain⟨rfl,Qf⟩:=aE hT hta;have eJ:=Qf.kind;rw[hk]at eJ;have hu:=ql eJ;split at h
      .rename_i b i s m c;cases h;have q:=br cA;simp only[E.den]at q;refine cE ?_;simp only[execOp,ev hv,SV.val,xE];have: ¬(m.den ρ 0).toNat<n:=by omega
       simp[Instr.arrayAt,run_underlying hu,this]
      .split at h
       .rename_i v _ r hr;cases h;simp only at cA dF;obtain⟨q1,q2⟩:=bM cA;have q:=br q2;simp only[E.den]at q;obtain⟨hj,fx⟩:=gJ hr dF q1;have NN:=fx.lo;have hhi:=fx.hi;obtain⟨a,cp,k,e1,e2,e3,e4⟩:=fx.is;have cC:(r.p.lo.den ρ 0).toNat<(Option.map ag (Option.map (λm=>m.den ρ 0) r.p.mx)).getD cp:=by
         cases hm:r.p.mx with
         | none=>simp only[Option.map_none,Option.getD_none];omega
         | some m=>
          have:=(fx.top (m.den ρ 0) (by rw[hm];rfl)).1;simp only[Option.map_some,ayG];omega
        have kX:=e4 (.inl cC);have hS:=dF r.j (by simp) _ hj;refine cE ?_;simp only[execOp,ev hv,SV.val];rw[e3];have: ¬(r.p.len.den ρ 0).toNat<n:=by omega
        have aiB: ∃ad,a=some ad:=by
         obtain⟨ad,c2,hh⟩:=oe hS (by omega);rw[hh]at e1;simp only[Value.slice.injEq]at e1;exact⟨ad,e1.1.symm⟩
        obtain⟨ad,rfl⟩:=aiB;rw[e1];simp[Instr.arrayAt,run_underlying hu,this,gC,kX]
       .cases h
    .cases h
   .cases h
  .cases h
 | fieldAddr s x f=>
  simp only[ep]at h;split at h
  .rename_i ts a vM ha;split at h
   .rename_i fs hk;split at h
    .rename_i t off hf;split at h
     .rename_i ti dZ;split at h
      .cases h
      .rename_i jR;have jT:=λad=>vL (w:=w) hT vM hk hf dZ jR ad
       split at h
       .cases h;refine eR ?_;rw[ev ha,SV.val,jT,gE,SV.val]
       .cases h;refine eR ?_;rw[ev ha,SV.val,jT,gE,SV.val,Nat.add_assoc]
       .rename_i v i s' c;split at h
        .rename_i j md v' t' s2 n aB eX;cases h;obtain⟨hj,er⟩:=dy eX;simp only[Ck.og,beq_iff_eq]at er;subst er;have hS:=dF j (by simp) _ hj;obtain⟨h0,h1⟩:=dR ρ cA;obtain⟨ad,cp,he⟩:=oe hS (by omega);refine eR ?_;rw[ev ha,SV.val,he,gC,jT,dS,SV.val,he,gC,Nat.add_assoc]
        .cases h
       .cases h
     .cases h
    .cases h
   .cases h
  .cases h
 | field s x f=>
  simp only[ep]at h;split at h
  .rename_i ts cs vM ha;split at h
   .rename_i fs hk;split at h
    .rename_i t off hf;split at h
     .rename_i ti dZ;split at h
      .rename_i xs Jw;rw[axV]at h;obtain⟨v,hv,rfl⟩:=h;refine eR ?_;rw[ev ha,SV.val];exact zD hT vM hk hf dZ Jw hv
      .cases h
     .cases h
    .cases h
   .cases h
  .cases h
 | indexAddr t x y=>
  simp only[ep]at h;split at h
  .rename_i tt a k j ji ha hy;split at h
   .rename_i e hk;split at h
    .rename_i te kZ;split at h
     .rename_i b i s n m;split at h
      .rename_i jR;cases h;have PW:0<=i.den ρ 0:=gI λc hc=>cA c (List.mem_append_left _ hc)
       obtain⟨h0,h1⟩:=dR ρ (i:=j) (n:=n) λc hc=>cA c (List.mem_append_right _ hc)
       refine eR ?_;rw[ev ha,ev hy,SV.val,SV.val,sf hT ji hk kZ _ _ _ _ _ h0 (by omega),gE,xE,bK,jR,Int.toNat_add PW h0,Nat.add_mul,Nat.add_zero]
      .cases h
     .split at h
      .rename_i r hr;split at h
       .rename_i jR;cases h;simp only at cA dF;obtain⟨w1,w2⟩:=bM cA;obtain⟨hj,fx⟩:=gJ hr dF w1;obtain⟨h0,h1⟩:=dR ρ w2;obtain⟨b1,b2,b3,ad,c,q,hv,hc,hx,hq⟩:=fx;have NM:(r.p.lo.den ρ 0).toNat<((r.p.mx.map λm=>m.den ρ 0).map ag).getD c:=by
         cases hmx:(r.p.mx.map λm=>m.den ρ 0)with
         | none=>simp only[Option.map_none,Option.getD_none];omega
         | some m=>have:=b3 m hmx;simp only[Option.map_some,ayG];omega
        have hq:=hq (.inl NM);have fL: ∃ad0,ad=some ad0:=by
         cases ad with
         | some ad0=>exact⟨ad0,rfl⟩
         | none=>
          obtain⟨a',cp',he⟩:=oe (dF r.j (by simp) _ hj) (by omega);rw[hv]at he;cases he
        obtain⟨ad,rfl⟩:=fL;refine eR ?_;have e3:(SV.int k j).val ρ= .int k (j.den ρ 0):=rfl;have e2:(SV.pv r.v (fl r.p.lo j) r.s 0).val ρ= .pointer (some (ad.add ((r.p.lo.den ρ 0+j.den ρ 0).toNat*r.s+0))):=by rw[SV.val,hv,bK];rfl
        rw[ev ha,ev hy,hx,e2,e3,Option.map_some,sf hT ji hk kZ _ _ _ _ _ h0 (by omega),jR,Nat.add_zero,dS,hq,<-Nat.add_mul,<-Int.toNat_add b1 h0]
       .cases h
      .cases h
    .cases h
   .rename_i n e hk;split at h
    .rename_i te kZ;split at h
     .rename_i b c;cases h;obtain⟨h0,h1⟩:=dR ρ cA;refine eR ?_;rw[ev ha,ev hy,SV.val,SV.val,AP hT ji hk kZ _ _ _ h0 h1,gE,xE,Nat.add_comm]
     .cases h
    .cases h
   .cases h
  .cases h
 | index t x y=>
  simp only[ep]at h;split at h
  .rename_i tt cs k j ji ha hy;split at h
   .rename_i n e hk;split at h
    .rename_i te kZ;have hi:=(aE hT kZ).2;split at h
     .rename_i l hl;split at h
      .rename_i hln;split at h
       .rename_i xs Jw;rw[axV]at h;obtain⟨v,hv,rfl⟩:=h;refine eR ?_;have hd:=dg (ρ:=ρ) hl;rw[ev ha,ev hy,SV.val,SV.val];refine vN hT ji hk kZ _ _ _ (by omega) (by omega) ?_;rw[hd,ax3];exact AO hi Jw hv
       .cases h
      .cases h
     .split at h
      .rename_i k' m a;split at h
       .rename_i hc;obtain⟨rfl,lZ,zz⟩:=hc;cases h;obtain⟨h0,h1⟩:=dR ρ cA;refine eR ?_;rw[ev ha,ev hy,SV.val,SV.val];refine vN hT ji hk kZ _ _ _ h0 h1 ?_;have cC:(j.den ρ 0).toNat<m:=by simp only[E.den]at h1;omega
        have sA:(SV.aq ρ [SV.jD k' m a])[(j.den ρ 0).toNat]? =some (.int k' (a.den ρ (j.den ρ 0).toNat)):=by
         simp only[SV.aq,SV.cells,List.append_nil];rw[bL,if_pos cC]
        rw[lZ,Nat.mul_one,dp];simp[part,hi.isAgg w,zz,sA]
       .cases h
      .cases h
    .cases h
   .cases h
  .rename_i tt v k j _ ji hx hy;split at h
   .rename_i hk;obtain⟨h1,h2⟩:=FK (P:=P) (w:=w) (ρ:=ρ) (k:=k) hT ji hk h cA;obtain⟨rv,UU,Yv,re⟩:=res;simp only at h2;subst h2;refine eR ?_;rw[ev hx,ev hy];exact h1
   .cases h
  .cases h
 | extract x i=>
  simp only[ep]at h;split at h
  .rename_i vs hx;rw[axV]at h;obtain⟨v,hv,rfl⟩:=h;refine cE ?_;have:(SV.bF ρ vs)[i]? =some (v.val ρ):=by
    have key: ∀(l:List SV) (i:Nat),(SV.bF ρ l)[i]? =(l[i]?).map (SV.val ρ):=by
     intro l
     induction l with
     | nil=>intro i;simp[SV.bF]
     | cons x r ih=>intro i;cases i<;>simp[SV.bF,ih]
    rw[key,hv];rfl
   simp[execOp,ev hx,SV.val,Instr.extract,this]
  .cases h
 | makeFunc fn first jL=>
  simp only[ep]at h;split at h
  .rename_i f Ld;rw[axV]at h;obtain⟨cs,nY,rfl⟩:=h;have:=iC uG _ _ nY;have hf:first= #[]:=ayw Ld
   subst hf;refine cE ?_;simp only[execOp,ax9,Instr.makeFunc,ayj,ax0,SV.val];have e5:Array.map bF jL=(SV.bF ρ cs).toArray:=ayw (by rw[Array.toList_map,this]);rw[e5];simp
  .rename_i f x r Ld;split at h
   .rename_i DN;rw[axV]at h;obtain⟨cs,nY,rfl⟩:=h;rw[<-Ld]at nY;have:=iC uG _ _ nY;have hf:jL= #[]:=by simpa using DN
    subst hf;refine cE ?_;simp only[execOp,ax9,Instr.makeFunc,ayj,ax0,SV.val];have e5:Array.map bF first=(SV.bF ρ cs).toArray:=ayw (by rw[Array.toList_map,this])
    rw[e5];simp
   .cases h
  .cases h
 | call c=>
  obtain⟨callee,args,argTypes⟩:=c;simp only[ep]at h;split at h
  .rename_i x t ma FN;have hf:args= #[x]:=ayw ma;have hg:argTypes= #[t]:=ayw FN;subst hf hg;split at h
   .rename_i tt v ji hv;obtain⟨h1,h2⟩:=PJ (P:=P) hT ji h dF cA ty;obtain⟨rv,UU,Yv,re⟩:=res;simp only at h2;subst h2;refine cE ?_;simp only[execOp,resolve,invoke,builtin,ax9,ayj,ax0,ayE,ayr,List.map_nil,ev hv];rw[h1];rfl
   .cases h
  .rename_i x t ma FN;have hf:args= #[x]:=ayw ma;have hg:argTypes= #[t]:=ayw FN;subst hf hg;split at h
   .rename_i tt ji hv;split at h
    .rename_i e hk;cases h;obtain⟨rfl,Ct⟩:=aE hT ji;have eJ:=Ct.kind;rw[hk]at eJ;have hu:=cd eJ;refine cE ?_;have hc:(Builtin.cap_ #[tt.t] ty #[.slice none 0 0]).run P w= .ok (goInt 0) w:=by
      simp[Builtin.cap_,run_underlying hu]
     simp only[execOp,resolve,invoke,builtin,ax9,ayj,ax0,ayE,ayr,List.map_nil,ev hv,SV.val];rw[hc];rfl
    .cases h
   .cases h
  .rename_i x y ma;have hf:args= #[x,y]:=ayw ma;subst hf;split at h
   .rename_i k a k' b ha hb;cases h;refine cE ?_;simp only[execOp,resolve,invoke,builtin,ax9,ayj,ax0,ayE,ayr,List.map_nil,ev ha,ev hb,SV.val,mE];simp[Builtin.max_,Builtin.max2,ar]
   .cases h
  .rename_i x y ma;have hf:args= #[x,y]:=ayw ma;subst hf;split at h
   .rename_i k a k' b ha hb;cases h;refine cE ?_;simp only[execOp,resolve,invoke,builtin,ax9,ayj,ax0,ayE,ayr,List.map_nil,ev ha,ev hb,SV.val,mE];simp[Builtin.min_,Builtin.min2,ar]
   .cases h
  .rename_i x y t t' ma FN;have hf:args= #[x,y]:=ayw ma;have hg:argTypes= #[t,t']:=ayw FN;subst hf hg;split at h
   .rename_i tt v u ji hv hu;have:=zU (P:=P) (w:=w) (nb:=nb) hT iW ji h dF cA ty;simp only[execOp,resolve,invoke,builtin,ax9,ayj,ax0,ayE,ayr,List.map_nil,ev hv,ev hu];simp only[ax9,ayj]at this;exact this
   .cases h
  .rename_i x t ma FN;have hf:args= #[x]:=ayw ma;have hg:argTypes= #[t]:=ayw FN;subst hf hg;split at h
   .rename_i tt v ji hv;have:=Cw (P:=P) (w:=w) (nb:=nb) (nv:=nv) hT ji h dF cA ty;simp only[execOp,resolve,invoke,builtin,ax9,ayj,ax0,ayE,ayr,List.map_nil,ev hv];simp only[ax9,ayj]at this;exact this
   .cases h
  .rename_i x y t t' ma FN;have hf:args= #[x,y]:=ayw ma;have hg:argTypes= #[t,t']:=ayw FN;subst hf hg;split at h
   .rename_i tt v u ji hv hu;split at h
    .rename_i heq;subst heq;have:=Dg (P:=P) (w:=w) (nb:=nb) (nv:=nv) hT ji h dF cA ty;simp only[execOp,resolve,invoke,builtin,ax9,ayj,ax0,ayE,ayr,List.map_nil,ev hv,ev hu];simp only[ax9,ayj]at this;exact this
    .cases h
   .cases h
  .cases h
 | slice t x lo hi mx=>
  simp only[ep]at h;split at h
  .rename_i tt v l hh m ji hv hl hhi hm;split at h
   .rename_i hk;split at h
    .cases h
    .rename_i hmx;have zK:m=none:=by cases m<;>simp_all
     subst zK;obtain⟨h1,h2⟩:=Cx (P:=P) (w:=w) (ρ:=ρ) hT ji hk h (k_ uG hl) (k_ uG hhi) cA;have aoQ:mx.map bF=none:=by
      have:=k_ uG hm;cases hq:mx.map bF with
      | none=>rfl
      | some v=>rw[hq]at this;exact this.elim
     obtain⟨rv,UU,Yv,re⟩:=res;simp only at h2;subst h2;refine eR ?_;rw[ev hv,aoQ];exact h1
   obtain⟨h1,h2⟩:=AU (P:=P) (w:=w) hT ji h (k_ uG hl) (k_ uG hhi) (k_ uG hm) dF cA;obtain⟨rv,UU,Yv,re⟩:=res;simp only at h2;subst h2;refine eR ?_;rw[ev hv];exact h1
  .cases h
 | makeMap t r=>
  cases r with
  | some r=>simp[ep]at h
  | none=>
   simp only[ep]at h;have:=xJ (P:=P) (w:=w) (hp:=hp) (S:=S) (nv:=nv) (ρ:=ρ) hT Er h;simp only[execOp,Option.map_none];exact this
 | lookup t x k comma=>
  simp only[ep]at h;split at h
  .rename_i x' k' hx hk;obtain⟨h1,h2⟩:=zI (P:=P) (w:=w) hT h dF;obtain⟨rv,UU,Yv,re⟩:=res;simp only at h2;subst h2;refine eR ?_;rw[ev hx,ev hk];exact h1
  .cases h
 | mapUpdate t x k v=>
  simp only[ep]at h;split at h
  .rename_i x' k' v' hx hk hv;obtain⟨h1,j,ck,h2,w',h3,h4⟩:=rE (P:=P) (w:=w) hT h dF;unfold Did;rw[h2];refine⟨w',.inr ⟨h1,?_⟩,h4⟩;simp only[execOp,ev hx,ev hk,ev hv,ax9,h3,ax0,ayj]
  .cases h
 | mapEntry t x k=>
  simp only[ep]at h;split at h
  .rename_i x' k' hx hk;obtain⟨j,ck,h2,w',h3,h4⟩:=Ba (P:=P) (w:=w) hT h dF cA;unfold Did;rw[h2];refine⟨w',.inl ?_,h4⟩;simp only[execOp,ev hx,ev hk,ax9,h3,ax0,ayj]
  .cases h
 | entryStore t x s v=>
  simp only[ep]at h;split at h
  .rename_i x' s' v' hx hs hv;obtain⟨h1,j,ck,h2,w',h3,h4⟩:=Bd (P:=P) (w:=w) t h dF cA;unfold Did;rw[h2];refine⟨w',.inr ⟨h1,?_⟩,h4⟩;simp only[execOp,ev hx,ev hs,ev hv,ax9,h3,ax0,ayj]
  .cases h
 | insert t x k v=>
  simp only[ep]at h;split at h
  .rename_i x' k' v' hx hk hv;obtain⟨h1,j,ck,h2,w',h3,h4⟩:=rE (P:=P) (w:=w) hT h dF;unfold Did;rw[h2];refine⟨w',.inr ⟨h1,?_⟩,h4⟩;simp only[execOp,ev hx,ev hk,ev hv,ax9,h3,ax0,ayj]
  .cases h
 | makeSlice t n c=>
  simp only[ep]at h;split at h
  .rename_i tt k n' k' c' ji hn hc;have:=Df (P:=P) (w:=w) (hp:=hp) (S:=S) (nb:=nb) (ρ:=ρ) hT ji h cA k k';have en:bF n= .int k (n'.den ρ 0):=ev hn;have ec:bF c= .int k' (c'.den ρ 0):=ev hc;simp only[execOp,en,ec];exact this
  .cases h
 | range t x=>
  simp only[ep]at h;split at h
  .rename_i ti l dZ hx;split at h
   .rename_i hk;cases h;obtain⟨rfl,hi⟩:=aE hT dZ;have k1:=hi.kind;rw[hk]at k1;have hu:=IZ k1;refine⟨w.alloc (.stringIter ⟨l.toArray⟩ 0),_,if_pos rfl,?_,⟨rfl,rfl,rfl,by simp⟩,by simp,λk hk=>heap_alloc_old w _ hk,λk=>Iff.rfl,heap_alloc_new w _⟩;subst Er;have e1:bF x= .string ⟨l.toArray⟩:=ev hx;simp only[execOp,e1,ax9,run_range_string w _ _ hu,ax0,ayj,SV.val,ayk,kY];rfl
   .cases h
  .rename_i ti m dZ hx;unfold rangeMap at h;split at h
   .rename_i kt vt hk;split at h
    .rename_i j b' nB zJ z_ zero has aB hf;cases h;obtain⟨hj,er⟩:=fF hf;simp only[Ck.isMap,beq_iff_eq]at er;subst er;obtain⟨rfl,hi⟩:=aE hT dZ;have k1:=hi.kind;rw[hk]at k1;have hu:=su k1;obtain⟨_,⟨es,cl,hb,hc⟩,_⟩:=dF j (by simp) _ hj;refine⟨w.alloc (.mapIter (some (ρ.bv.getD m 0)) cl #[] cl),_,if_pos rfl,?_,⟨rfl,rfl,rfl,by simp⟩,by simp,λk hk=>heap_alloc_old w _ hk,λk=>Iff.rfl,cl,heap_alloc_new w _⟩;subst Er;have e1:bF x= .map (some (ρ.bv.getD m 0)):=ev hx;have hrr:=run_range_map (P:=P) w _ _ _ (ρ.bv.getD m 0) es cl hu hb;simp only[execOp,e1,ax9,hrr,ax0,ayj,SV.val];simp only[ayk,kY]
    .cases h
   .cases h
  .cases h
 | next x b=>
  cases b with
  | false=>
   simp only[ep,Option.bind_eq_some_iff]at h;obtain⟨v,hv,h⟩:=h;unfold M5 at h;split at h
   .rename_i b;split at h
    .rename_i j hj0;split at h
     .rename_i b' m hj;split at h
      .rename_i hbb;subst hbb;split at h
       .rename_i i bm nB zJ z_ zero has aB hf;split at h
        .rename_i h0;cases h;obtain⟨hi,er⟩:=fF hf;simp only[Ck.isMap,beq_iff_eq]at er;subst er;have e1:bF x= .pointer (some ⟨ρ.bv.getD b 0,0,none⟩):=ev hv;obtain⟨hS,c,hh⟩:=dF j (by simp) _ hj;obtain⟨_,⟨es,cl,hb,hc⟩,_⟩:=dF i (by simp) _ hi;have hz:=dg (ρ:=ρ) h0;rw[dp]at hz;have zZ:es= #[]:=by
          have:es.size=0:=by
           have e0:(E.den ρ (.lit 0) 0).toNat=0:=rfl;rw[e0]at hz;rw[hz]at hc;exact(Int.ofNat.inj hc).symm
          exact Array.eq_empty_of_size_eq_zero this
         have hn:=run_next_at (P:=P) w ty (ρ.bv.getD b 0) (ρ.bv.getD m 0) c c #[] es cl hh hb (by rw[zZ];intro x hx;cases hx) (Nat.le_refl _);rcases hn with⟨_,hn⟩ | ⟨e,he,_⟩
         .refine cE ?_;simp only[execOp,e1,ax9,hn,ax0,ayj,SV.val,SV.bF];rfl
         .rw [zZ]at he;simp[leftOf]at he
        .cases h
       .cases h
      .cases h
     .cases h
    .cases h
   .cases h
  | true=>
   simp only[ep,Option.bind_eq_some_iff]at h;obtain⟨v,hv,h⟩:=h;unfold M4 at h;split at h
   .rename_i b;split at h
    .rename_i j hj0;split at h
     .rename_i b' l pos hj;split at h
      .rename_i hbb;subst hbb;have e1:bF x= .pointer (some ⟨ρ.bv.getD b 0,0,none⟩):=ev hv;split at h
       .rename_i c hc;split at h
        .rename_i aoS;cases h;obtain⟨hS,hh⟩:=dF j (by simp) _ hj;obtain⟨cC,sA⟩:=axT.1 hc;have N4:pos<(⟨l.toArray⟩:ByteArray).size:=by simpa[ByteArray.size] using cC
         have hce:(⟨l.toArray⟩:ByteArray)[pos]'N4=c:=by
          show l.toArray[pos]'_=c;simpa using sA
         have hn:=Lib.run_next_ascii_at (P:=P) w (ρ.bv.getD b 0) ⟨l.toArray⟩ pos ty hh N4 (by rw[hce];exact aoS);rw[hce]at hn;refine⟨w.iterAt (ρ.bv.getD b 0) ⟨l.toArray⟩ (pos+1),.inl ?_,⟨⟨_,hj,rfl⟩,rfl,⟨rfl,rfl,rfl,by simp[World.iterAt]⟩,by simp[World.iterAt],λk hk=>?_,λk=>hS k,?_⟩⟩
         .simp only[execOp,e1,ax9,hn,ax0,ayj,SV.val,SV.bF];rfl
         .have: ¬k=ρ.bv.getD b 0:=λe=>hk ((hS k).2 e)
          exact Array.getElem?_setIfInBounds_ne (Ne.symm this)
         .exact Lib.iterAt_heap w _ _ pos (pos+1) hh
        .cases h
       .rename_i hc;cases h;obtain⟨hS,hh⟩:=dF j (by simp) _ hj;have hn:=Lib.run_next_end_at (P:=P) w (ρ.bv.getD b 0) ⟨l.toArray⟩ pos ty hh (by
         rw[List.getElem?_eq_none_iff]at hc;simpa[ByteArray.size] using hc)
        refine cE ?_;simp only[execOp,e1,ax9,hn,ax0,ayj,SV.val,SV.bF];rfl
      .cases h
     .cases h
    .cases h
   .cases h
 | _=>simp[ep]at h
end
end Go.RX
