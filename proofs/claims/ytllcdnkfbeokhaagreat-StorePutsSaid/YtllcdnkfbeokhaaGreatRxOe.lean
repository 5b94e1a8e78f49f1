/- Executor. -/
import Derived.Test.YtllcdnkfbeokhaaGreatRxOd
open Bool renaming and_eq_true -> ai
open Go.Result renaming andThen_ok -> ax0
open Go.Sem renaming run_bind -> ax9, run_pure -> ayj
open Int renaming toNat -> ag, toNat_natCast -> ax3
open List renaming append_assoc -> ayl, eq_nil_of_length_eq_zero -> aye, flatMap_cons -> ayn, map_cons -> ayr, mem_cons_of_mem -> axZ, mem_map -> ayg
open Nat renaming min -> ayv
open Option renaming getD_some -> ayG, map_eq_some_iff -> axV
open Option.some renaming injEq -> axU
namespace Go.RX
section
variable {P:Program} {ρ:Env} {w:World} {look:Nat->Option SV} {bF:Operand->Value} {hp:List Ck} {S:Nat->Nat->Prop} {nb nv:Nat} {T:List TI}
theorem iS: ∀{l:List SV} {aB:List bU},lN l aB=true->∀i:Nat,rowAt ρ aB i=SV.aq ρ l
 | [],[],_,_=>rfl
 | [],_::_,h,_=>by simp[lN]at h
 | v::r,[],h,_=>by cases v<;>simp[lN]at h
 | v::r,c::aB,h,i=>by
  unfold lN at h;split at h
  .rename_i h1 _;cases h1
  .rename_i k r' k' w aS h1 h2;cases h1;cases h2;simp only[ai,beq_iff_eq]at h;obtain⟨⟨rfl,rfl⟩,h⟩:=h;have:=iS h i;simp only[rowAt,ayr,ayn,SV.aq,SV.cells]at this ⊢;rw[this];simp[bU.cells,ax,aj,E.den]
  .rename_i r' w aS h1 h2;cases h1;cases h2;simp only[ai,beq_iff_eq]at h;obtain⟨rfl,h⟩:=h;have:=iS h i;simp only[rowAt,ayr,ayn,SV.aq,SV.cells]at this ⊢;rw[this];simp[bU.cells,cR,E.den,BE.den]
  .rename_i k n r' k' w aS h1 h2;cases h1;cases h2;simp only[ai,beq_iff_eq]at h;obtain⟨⟨rfl,rfl⟩,h⟩:=h;have:=iS h i;simp only[rowAt,ayr,ayn,SV.aq,SV.cells]at this ⊢;rw[this];simp only[bU.cells,ax];congr 1
  .rename_i r' w aS h1 h2;cases h1;cases h2;simp only[ai,beq_iff_eq]at h;obtain⟨rfl,h⟩:=h;have:=iS h i;simp only[rowAt,ayr,ayn,SV.aq,SV.cells]at this ⊢;rw[this];simp[bU.cells,vF,E.den,dr]
  .rename_i r' w a' aS h1 h2;cases h1;cases h2;simp only[ai,beq_iff_eq]at h;obtain⟨rfl,h⟩:=h;have:=iS h i;simp only[rowAt,ayr,ayn,SV.aq,SV.cells]at this ⊢;rw[this];simp[bU.cells,cV]
  .rename_i r' w aS h1 h2;cases h1;cases h2;simp only[ai,beq_iff_eq]at h;obtain⟨rfl,h⟩:=h;have:=iS h i;simp only[rowAt,ayr,ayn,SV.aq,SV.cells]at this ⊢;rw[this];simp[bU.cells,cV,E.den,rK,eB]
  .cases h
theorem kx{te:TI}{z:List bU}(h:lO T te=some z):(∀i:Nat,rowAt ρ z i=SV.aq ρ te.zero)/\cm z=te.size/\0<te.size:=by
 unfold lO at h;split at h
 .split at h
  .rename_i hc;cases h;simp only[ai,beq_iff_eq,Bool.not_eq_true',beq_eq_false_iff_ne]at hc;exact⟨λi=>iS hc.1.1 i,hc.1.2,by omega⟩
  .cases h
 .cases h
theorem IW{te:TI}{z:List bU}(h:lO T te=some z)(n:Nat):aL ρ n z=(List.replicate n (SV.aq ρ te.zero)).flatten:=by
 rw[dI,eM λi _=>(kx h).1 i];unfold iX
 induction n with
 | zero=>rfl
 | succ n ih=>rw[List.range_succ,List.flatMap_append,ih,List.replicate_succ',List.flatten_append];simp
theorem Df(hT:bD P T=true){ts:TypeId}{tt:TI}(ji:aV T ts=some tt){n c:E}{res:jf}(h:FG T nv tt.k n c=some res)(cA: ∀b∈res.vcs,b.prop ρ)
  (k k':IntKind):
  Did P ρ w hp S nb nv ((do pure (.value (<-Instr.makeSlice ts (.int k (n.den ρ 0)) (.int k' (c.den ρ 0)))):Sem Next).run P w) res:=by
 unfold FG at h;split at h
 .rename_i t hk;split at h
  .rename_i te kZ;obtain⟨rfl,Ct⟩:=aE hT ji;obtain⟨rfl,dZ⟩:=aE hT kZ;have eJ:=Ct.kind;rw[hk]at eJ;have hu:=cd eJ;obtain⟨i,hi,jR,FV,z,hz,hc⟩:=dZ.info;have xD:z.cells.size=te.size:=by rw[<-Array.length_toList,<-hc ρ,bJ,dZ.Nu]
   split at h
   .rename_i zc Gt;cases h;simp only at cA;obtain⟨v1,v3⟩:=bM cA;obtain⟨v1,v2⟩:=bM v1;have v1:=br v1;have v2:=br v2;simp only[E.den]at v1;obtain⟨b1,b2⟩:=po (n:=c) (bytes:=te.bytes) (v3 _ (by simp)) (by omega);obtain⟨z1,z2,z3⟩:=kx (ρ:=ρ) Gt;have P1:(i.bytes:Int)*c.den ρ 0<=281474976710656:=by
     have:((i.bytes*(c.den ρ 0).toNat:Nat):Int)<=281474976710656:=by rw[FV,Nat.mul_comm];omega
     rw[Int.natCast_mul,Int.toNat_of_nonneg (by omega)]at this;exact this
    have hr:=run_make (P:=P) w tt.t te.t i z hu hi hz k k' (n.den ρ 0) (c.den ρ 0) v1 v2 P1 (by omega);have mX:(madeCells z.cells ((c.den ρ 0).toNat*i.size)).toList=aL ρ (c.den ρ 0).toNat zc:=by
     rw[IW Gt,hc ρ,jR,<-xD];unfold madeCells;exact Es _ _ (by omega)
    refine⟨te.t,te.size,n,zc,.slice (some ⟨w.heap.size,0,none⟩) (n.den ρ 0).toNat (c.den ρ 0).toNat,w.alloc (.cells (madeCells z.cells ((c.den ρ 0).toNat*i.size)) te.t),λk=>k=w.heap.size,rfl,rfl,by simp only[ax9,hr,ax0,ayj],rfl,⟨rfl,rfl,rfl,by simp⟩,λk hk=>heap_alloc_old w _ hk,⟨?_,?_⟩,?_⟩
    .simp only[if_true];refine⟨by rw[eL,z2],.inr ⟨w.heap.size,0,_,_,rfl,⟨_,_,heap_alloc_new w _,.zero _⟩,by omega,by unfold maxLen;omega,λ_=>?_,?_⟩⟩
     .rw [size_madeCells,jR,Nat.zero_add];exact Nat.le_refl _
     .rw [mX,<-z2,List.drop_zero,sZ _ _ _ (by omega)]
    .intro k;simp only[Value.ownBlock,axU];exact⟨λh=>⟨h.symm,.inl trivial⟩,λh=>h.1.symm⟩
    .rintro k rfl;simp
   .cases h
  .cases h
 .cases h
theorem Cv(hT:bD P T=true){ti te:TI}{t:TypeId}(ht:aV T t=some ti){e:Nat}(hk:ti.k= .slice e)(kZ:aV T e=some te){zc:List bU}(_:lO T te=some zc):
  Did P ρ w hp S nb nv ((do pure (.value (<-Instr.buildSlice t 0 #[])):Sem Next).run P w) {val:= .vv nv,jE:= .own (.cF true nv e te.size (.lit 0) zc)}:=by
 obtain⟨rfl,dZ⟩:=aE hT ht;obtain⟨rfl,NJ⟩:=aE hT kZ;have eJ:=dZ.kind;rw[hk]at eJ;have hu:=cd eJ;have hr:(Instr.buildSlice ti.t 0 #[]).run P w= .ok (.slice (some ⟨w.heap.size,0,none⟩) 0 0) (w.alloc (.cells #[] te.t)):=by
  simp[Instr.buildSlice,run_underlying hu,NJ.sizeOf w,Instr.fill,newRow,Array.range_zero']
 refine⟨te.t,te.size,.lit 0,zc,.slice (some ⟨w.heap.size,0,none⟩) 0 0,w.alloc (.cells #[] te.t),λk=>k=w.heap.size,rfl,rfl,by simp only[ax9,hr,ax0,ayj],rfl,⟨rfl,rfl,rfl,by simp⟩,λk hk=>heap_alloc_old w _ hk,⟨?_,?_⟩,?_⟩
 .simp only[if_true];refine⟨by simp[E.den,aL,aG],.inr ⟨w.heap.size,0,0,#[],rfl,⟨_,_,heap_alloc_new w _,.zero _⟩,Nat.le_refl _,Nat.zero_le _,by simp,by simp[E.den,aL,aG]⟩⟩
 .intro k;simp only[Value.ownBlock,axU];exact⟨λh=>⟨h.symm,.inl trivial⟩,λh=>h.1.symm⟩
 .rintro k rfl;simp
theorem M8{x:SV}{r:Rt}(hr:iJ hp x=some r)(dF:Reads hp ρ w S [r.j])(hv: ∀b∈r.vcs,b.prop ρ)(K8:r.md=true)(hw:r.s=cm r.aB)(hl:0<=r.p.len.den ρ 0)
  {m:E} (hm:0<=m.den ρ 0) (hle:m.den ρ 0<=r.p.len.den ρ 0) {sc aS:List bU} (hs:cm sc=r.s) (g_:kE r.p.lo m r.aB sc=some aS):
  ∃a c,x.val ρ= .slice a (r.p.len.den ρ 0).toNat c/\∃w',(∀ad,a=some ad->(storeCells ad (aL ρ (m.den ρ 0).toNat sc)).run P w= .ok () w')/\((m.den ρ 0).toNat=0->w'=w)/\(a=none->w'=w)/\
   Dv P w ρ hp S r.j (.cF true r.v r.t r.s r.n aS) w':=by
 obtain⟨hj,fx⟩:=gJ hr dF hv;have hS:=dF r.j (by simp) _ hj;have hS:(aA true r.t r.s (ρ.vv.getD r.v V1.nil).v (r.n.den ρ 0).toNat (aL ρ (r.n.den ρ 0).toNat r.aB)).p w (S r.j):=by
  rw[K8]at hS;exact hS
 obtain⟨h1,h2,h3,a,c,k,hv0,hc,hx,hk⟩:=fx;obtain⟨c1,c2,c3⟩:=lH (ρ:=ρ) h1 hm g_;have adx:=AW (f:=rowAt ρ r.aB) (g:=rowAt ρ sc) (h:=rowAt ρ aS) (s:=r.s) (λi=>by rw[dU];exact hw.symm) (r.n.den ρ 0).toNat (r.p.lo.den ρ 0).toNat (m.den ρ 0).toNat (by omega) c3;have yR:(aL ρ (m.den ρ 0).toNat sc).length=(m.den ρ 0).toNat*r.s:=by rw[eL,hs]
 have ady:(r.p.lo.den ρ 0).toNat*r.s+(aL ρ (m.den ρ 0).toNat sc).length<=(aL ρ (r.n.den ρ 0).toNat r.aB).length:=by
  rw[yR,eL,<-hw,<-Nat.add_mul];exact Nat.mul_le_mul_right _ (by omega)
 have IV:a=none->(m.den ρ 0).toNat=0:=by
  rintro rfl;obtain⟨_,_,he,lD,_⟩:=(Ew hS).1;rw[hv0]at he;cases he;have:=lD rfl;omega
 obtain⟨w',g1,g2,g3,g4,g5,g6⟩:=Ee (P:=P) hS ((r.p.lo.den ρ 0).toNat*r.s) ady (z9 _ _) ((a.getD ⟨0,0,none⟩).add ((r.p.lo.den ρ 0).toNat*r.s)) (λM7=>by
  rw[hv0];cases a with
  | none=>
   have:=IV rfl;rw[yR,this,Nat.zero_mul]at M7;omega
  | some a=>rfl)
 have hz:(m.den ρ 0).toNat=0->aL ρ (m.den ρ 0).toNat sc=[]:=λh=>aye (by rw[yR,h,Nat.zero_mul])
 refine⟨_,_,hx,w',?_,λh=>g6 (hz h),λh=>?_,⟨⟨_,hj,by rw[K8];rfl⟩,rfl,g2,g3,g4,?_⟩⟩
 .intro ad had;by_cases h0:(m.den ρ 0).toNat=0
  .rw [hz h0]at g6 ⊢;rw[g6 rfl];rfl
  .cases a with
   | none=>simp at had
   | some a0=>
    simp only[Option.map_some,axU]at had;subst had;have NM:(r.p.lo.den ρ 0).toNat<((r.p.mx.map λm=>m.den ρ 0).map ag).getD c:=by
     cases hmx:(r.p.mx.map λm=>m.den ρ 0)with
     | none=>simp only[Option.map_none,Option.getD_none];omega
     | some q=>have:=h3 q hmx;simp only[Option.map_some,ayG];omega
    rw[hk (.inl NM)];exact g1
 .cases a with
  | some a=>simp at h
  | none=>exact g6 (hz (IV rfl))
 .simp only[Ck.den];rw[dI,adx];rw[yR]at g5;exact g5
theorem PH{te:TI}{z:Value}{zc:List bU}(Gt:lO T te=some zc)(hc:SV.aq ρ te.zero=z.cells.toList)(xD:z.cells.size=te.size)(n:Nat):
  (Builtin.zeroCells z.cells n).toList=aL ρ n zc:=by
 obtain⟨z1,z2,z3⟩:=kx (ρ:=ρ) Gt;rw[IW Gt,hc];unfold Builtin.zeroCells;exact Es _ _ (by omega)
theorem Cw(hT:bD P T=true){ts:TypeId}{tt:TI}(ji:aV T ts=some tt){x:SV}{res:jf}(h:Ch T hp tt.k x=some res)
  (dF:Reads hp ρ w S res.rd) (cA: ∀b∈res.vcs,b.prop ρ) (ty:TypeId):
  Did P ρ w hp S nb nv ((do pure (.value (<-Builtin.clear_ #[ts] ty #[x.val ρ])):Sem Next).run P w) res:=by
 unfold Ch at h;split at h
 .rename_i e hk;cases h;obtain⟨rfl,Ct⟩:=aE hT ji;have eJ:=Ct.kind;rw[hk]at eJ;have hu:=cd eJ;show(Sem.run P _ w)= .ok (Next.value (SV.undef.val ρ)) w;simp[Builtin.clear_,run_underlying hu,SV.val,undef]
 .rename_i e hk _;split at h
  .rename_i te r kZ hr;obtain⟨rfl,Ct⟩:=aE hT ji;obtain⟨rfl,dZ⟩:=aE hT kZ;have eJ:=Ct.kind;rw[hk]at eJ;have hu:=cd eJ;obtain⟨i,hi,jR,FV,z,hz,hc⟩:=dZ.info;have xD:z.cells.size=te.size:=by rw[<-Array.length_toList,<-hc ρ,bJ,dZ.Nu]
   split at h
   .rename_i zc Gt;split at h
    .rename_i iD;obtain⟨hs,hw,K8⟩:=iD;rw[axV]at h;obtain⟨aS,g_,rfl⟩:=h;simp only at cA dF;obtain⟨v1,v2⟩:=bM cA;have v2:=br v2;simp only[E.den]at v2;obtain⟨_,z2,z3⟩:=kx (ρ:=ρ) Gt;obtain⟨a,c,hx,w',s1,s2,s3,s4⟩:=M8 (P:=P) hr dF v1 K8 hw v2 v2 (Int.le_refl _) (z2.trans hs.symm) g_;refine⟨w',.inl ?_,s4⟩;rw[hx];cases a with
     | none=>
      rw[s3 rfl];simp[Builtin.clear_,run_underlying hu,SV.val,undef]
     | some ad=>
      by_cases h0:(r.p.len.den ρ 0).toNat=0
      .rw [s2 h0,h0];simp[Builtin.clear_,run_underlying hu,SV.val,undef]
      .obtain⟨N,hN⟩: ∃N,(r.p.len.den ρ 0).toNat=N+1:=⟨(r.p.len.den ρ 0).toNat - 1,by omega⟩;have rY:=s1 ad rfl;rw[<-PH Gt (hc ρ) xD,hN]at rY;rw[hN];obtain⟨z',PV,_⟩:=dZ.zero w;have hzz:(zeroValue te.t).run P w= .ok z w:=by simp[zeroValue,typeInfo,hi,hz]
       simp[Builtin.clear_,run_underlying hu,hzz,rY,SV.val,undef]
    .cases h
   .cases h
  .cases h
 .cases h
theorem oG(a b:E):(rA a b).den ρ 0=min (a.den ρ 0) (b.den ρ 0):=by
 unfold rA;split
 .rfl
 .split
  .rename_i h;subst h;simp
  .simp only[E.den,ar];omega
theorem nQ(ts ty e:TypeId)(i:TypeInfo)(ht:P.underlying ts=some (.slice e))(hi:P.info? e=some i)(a:Option Addr)(N C:Nat)(y:Value)(m:Nat)(news:List Value)
  (hy:World.yP w y m news) (hl:news.length=m*i.size) {w':World} (hs: ∀ad,a=some ad->(storeCells ad (news.take (ayv m N*i.size))).run P w= .ok () w') (hn:a=none->w'=w):
  (Builtin.copy_ #[ts,ts] ty #[.slice a N C,y]).run P w= .ok (goInt (ayv m N)) w':=by
 obtain⟨q1,q2⟩:=zl (P:=P) hy hl;have q2:=q2 (ayv m N) (Nat.min_le_left _ _);cases a with
 | none=>
  have:=hn rfl;subst this;simp[Builtin.copy_,run_underlying ht,sizeOf,typeInfo,hi,q1,q2]
 | some ad=>
  have:=hs ad rfl;simp[Builtin.copy_,run_underlying ht,sizeOf,typeInfo,hi,q1,q2,this]
theorem M9(k:IntKind)(N i m:Nat)(f g h:Nat->Int)(hle:i+m<=N)(hh: ∀j,h j=if i<=j/\j<i+m then g (j - i)else f j):
  aj k N h=(aj k N f).take i++aj k m g++(aj k N f).drop (i+m):=by
 have e: ∀(n:Nat) (q:Nat->Int),aj k n q=iX (λj=>[.int k (q j)]) n:=by
  intro n q;unfold aj iX
  induction n with
  | zero=>rfl
  | succ n ih=>rw[List.range_succ,List.flatMap_append,List.map_append,ih];simp
 have:=AW (f:=λj=>[.int k (f j)]) (g:=λj=>[.int k (g j)]) (h:=λj=>[.int k (h j)]) (s:=1) (λ_=>rfl) N i m hle (λj=>by rw[hh];split<;>rfl);rw[Nat.mul_one,Nat.mul_one]at this;rw[e,e,e];exact this
theorem Dg(hT:bD P T=true){ts:TypeId}{tt:TI}(ji:aV T ts=some tt){x y:SV}{res:jf}(h:FF T hp tt.k x y=some res)
  (dF:Reads hp ρ w S res.rd) (cA: ∀b∈res.vcs,b.prop ρ) (ty:TypeId):
  Did P ρ w hp S nb nv ((do pure (.value (<-Builtin.copy_ #[ts,ts] ty #[x.val ρ,y.val ρ])):Sem Next).run P w) res:=by
 unfold FF at h;split at h
 .rename_i t hk;split at h
  .rename_i te kZ;obtain⟨rfl,Ct⟩:=aE hT ji;obtain⟨rfl,dZ⟩:=aE hT kZ;have eJ:=Ct.kind;rw[hk]at eJ;have hu:=cd eJ;obtain⟨i,hi,jR,FV,z,hz,hc⟩:=dZ.info;split at h
   .rename_i sc kS;split at h
    .rename_i b ix s n cap;split at h
     .rename_i j b' cs hf;obtain⟨hj,er⟩:=eV hf;simp only[Ck.xA,beq_iff_eq]at er;subst er;split at h
      .cases h
      .rename_i zF;have hs:s=te.size:=by
        apply Classical.byContradiction;intro fL;exact zF (.inl fL)
       split at h
       .rename_i k N a;split at h
        .rename_i k' a' g_;split at h
         .rename_i iD;obtain⟨lZ,rfl⟩:=iD;cases h;simp only at cA dF;obtain⟨v1,v5⟩:=bM cA;obtain⟨v1,v4⟩:=bM v1;obtain⟨v1,v3⟩:=bM v1;obtain⟨v1,v2⟩:=bM v1;have v2:=br v2;have v3:=br v3;have v4:=br v4;have v5:=br v5;rw[bK]at v5;simp only[E.den]at v2 v3 v4 v5;obtain⟨_,s2,s3⟩:=iK (te:=te) kS (λj hj=>dF j (axZ _ hj)) v1 v2;have hS:=dF j (by simp) _ hj;have hS:(ak (ρ.bv.getD b 0) true (aj k N (a.den ρ))).p w (S j):=by
           simpa[Ck.den,SV.aq,SV.cells] using hS
          rw[g_]at s3;have zK:((rA sc.n n).den ρ 0).toNat=ayv (sc.n.den ρ 0).toNat (n.den ρ 0).toNat:=by
           rw[oG];simp only[Nat.min_def,Int.min_def];split<;>split<;>omega
          have K9:ayv (sc.n.den ρ 0).toNat (n.den ρ 0).toNat<=(sc.n.den ρ 0).toNat:=Nat.min_le_left _ _;have Ka:ayv (sc.n.den ρ 0).toNat (n.den ρ 0).toNat<=(n.den ρ 0).toNat:=Nat.min_le_right _ _;have Ds:(aL ρ (sc.n.den ρ 0).toNat [⟨.int k,1,a'⟩]).take (ayv (sc.n.den ρ 0).toNat (n.den ρ 0).toNat*i.size)=aj k (ayv (sc.n.den ρ 0).toNat (n.den ρ 0).toNat) (a'.den ρ):=by
           rw[f_,jR,<-hs,lZ,Nat.mul_one];exact gQ k _ _ _ K9
          obtain⟨g1,g2⟩:=qi (P:=P) hS (ix.den ρ 0).toNat (vs:=aj k (ayv (sc.n.den ρ 0).toNat (n.den ρ 0).toNat) (a'.den ρ)) (by rw[aH,aH];omega)
           (λu hu=>by simp only[aj,ayg]at hu;obtain⟨_,_,rfl⟩:=hu;rfl)
          have jT:=nQ (P:=P) tt.t ty te.t i hu hi (some ⟨ρ.bv.getD b 0,(ix.den ρ 0).toNat*s,none⟩) (n.den ρ 0).toNat (cap.den ρ 0).toNat _ _ _ s3 (by rw[f_,aH,jR,<-hs,lZ,Nat.mul_one])
           (λad had=>by
            cases had;rw[Ds,lZ,Nat.mul_one];exact g1) (by simp)
          refine⟨w.setCells (ρ.bv.getD b 0) (ix.den ρ 0).toNat (aj k (ayv (sc.n.den ρ 0).toNat (n.den ρ 0).toNat) (a'.den ρ)),.inl ?_,⟨⟨_,hj,rfl⟩,rfl,jh _ _ _ _,jg _ _ _ _,λk hk=>ig _ _ _ _ _ (λe=>hk ((hS.1 k).2 e)),?_⟩⟩
          .have e1:(SV.sl b ix s n cap).val ρ= .slice (some ⟨ρ.bv.getD b 0,(ix.den ρ 0).toNat*s,none⟩) (n.den ρ 0).toNat (cap.den ρ 0).toNat:=rfl;rw[e1];simp only[ax9,jT,ax0,ayj,SV.val,goInt];congr 3;have:0<=(rA sc.n n).den ρ 0:=by rw[oG];omega
           omega
          .rw [aH]at g2;have:=M9 k N (ix.den ρ 0).toNat (ayv (sc.n.den ρ 0).toNat (n.den ρ 0).toNat) (a.den ρ) (a'.den ρ) ((E.jA a ix (rA sc.n n) a').den ρ) (by omega) (λj=>by simp only[E.den,zK]);simp only[Ck.den,SV.aq,SV.cells,List.append_nil];rw[this];exact g2
         .cases h
        .cases h
       .split at h
        .rename_i i0 n0 m0 k' a' PW DS NL g_;split at h
         .rename_i lZ;rw[axV]at h;obtain⟨qE,nq,rfl⟩:=h;simp only at cA dF;have di:=dg (ρ:=ρ) PW;have dn:=dg (ρ:=ρ) DS;have dm:=dg (ρ:=ρ) NL;obtain⟨_,s2,s3⟩:=iK (te:=te) kS (λj hj=>dF j (axZ _ hj)) cA (by omega);have hS:=dF j (by simp) _ hj;rw[g_,dm,ax3]at s3;obtain⟨p1,p2⟩:=np ρ nq;have fO:SV.aq ρ [SV.jD k' (min m0 n0) a']=aj k' (min m0 n0) (a'.den ρ):=by simp[SV.aq,SV.cells]
          rw[fO]at p1 p2;obtain⟨g1,g2⟩:=qi (P:=P) hS i0 p2 (λu hu=>by simp only[aj,ayg]at hu;obtain⟨_,_,rfl⟩:=hu;rfl);have Ds:(aL ρ m0 [⟨.int k',1,a'⟩]).take (ayv m0 n0*i.size)=aj k' (min m0 n0) (a'.den ρ):=by
           rw[f_,jR,<-hs,lZ,Nat.mul_one];exact gQ k' _ _ _ (Nat.min_le_left _ _)
          have jT:=nQ (P:=P) tt.t ty te.t i hu hi (some ⟨ρ.bv.getD b 0,i0,none⟩) n0 (cap.den ρ 0).toNat _ _ _ s3 (by rw[f_,aH,jR,<-hs,lZ,Nat.mul_one])
           (λad had=>by
            cases had;rw[Ds];exact g1) (by simp)
          refine⟨w.setCells (ρ.bv.getD b 0) i0 (aj k' (min m0 n0) (a'.den ρ)),.inl ?_,⟨⟨_,hj,rfl⟩,rfl,jh _ _ _ _,jg _ _ _ _,λk hk=>ig _ _ _ _ _ (λe=>hk ((hS.1 k).2 e)),?_⟩⟩
          .have e1:(SV.sl b ix s n cap).val ρ= .slice (some ⟨ρ.bv.getD b 0,i0,none⟩) n0 (cap.den ρ 0).toNat:=by simp[SV.val,di,dn,lZ]
           rw[e1];simp only[ax9,jT,ax0,ayj,SV.val,goInt,E.den]
          .simp only[Ck.den,p1];exact g2
         .cases h
        .rename_i i0 n0 k' a' PW DS NL g_;split at h
         .rename_i k2 N2 a Jy;split at h
          .rename_i iD;obtain⟨lZ,rfl,rfl⟩:=iD;rw[axV]at h;obtain⟨qE,nq,rfl⟩:=h;simp only at cA dF;obtain⟨v1,v2⟩:=bM cA;have v2:=br v2;simp only[E.den]at v2;have di:=dg (ρ:=ρ) PW;have dn:=dg (ρ:=ρ) DS;obtain⟨_,s2,s3⟩:=iK (te:=te) kS (λj hj=>dF j (axZ _ hj)) v1 v2;have hS:=dF j (by simp) _ hj;rw[g_]at s3;have zK:((rA sc.n (.lit N2)).den ρ 0).toNat=ayv (sc.n.den ρ 0).toNat N2:=by
            rw[oG];simp only[E.den,Nat.min_def,Int.min_def];split<;>split<;>omega
           have K9:ayv (sc.n.den ρ 0).toNat N2<=(sc.n.den ρ 0).toNat:=Nat.min_le_left _ _;have Ka:ayv (sc.n.den ρ 0).toNat N2<=N2:=Nat.min_le_right _ _;obtain⟨p1,p2⟩:=np ρ nq;obtain⟨c1,c2⟩:=fy ρ Jy;have c1:aj k2 N2 (a.den ρ)=((SV.aq ρ cs).drop i0).take N2:=by rw[<-c1];simp[SV.aq,SV.cells]
           obtain⟨g1,g2⟩:=qi (P:=P) hS i0 (vs:=aj k2 (ayv (sc.n.den ρ 0).toNat N2) (a'.den ρ)) (by rw[aH];omega) (λu hu=>by simp only[aj,ayg]at hu;obtain⟨_,_,rfl⟩:=hu;rfl);have Ds:(aL ρ (sc.n.den ρ 0).toNat [⟨.int k2,1,a'⟩]).take (ayv (sc.n.den ρ 0).toNat N2*i.size)=aj k2 (ayv (sc.n.den ρ 0).toNat N2) (a'.den ρ):=by
            rw[f_,jR,<-hs,lZ,Nat.mul_one];exact gQ k2 _ _ _ K9
           have jT:=nQ (P:=P) tt.t ty te.t i hu hi (some ⟨ρ.bv.getD b 0,i0,none⟩) N2 (cap.den ρ 0).toNat _ _ _ s3 (by rw[f_,aH,jR,<-hs,lZ,Nat.mul_one])
            (λad had=>by
             cases had;rw[Ds];exact g1) (by simp)
           refine⟨w.setCells (ρ.bv.getD b 0) i0 (aj k2 (ayv (sc.n.den ρ 0).toNat N2) (a'.den ρ)),.inl ?_,⟨⟨_,hj,rfl⟩,rfl,jh _ _ _ _,jg _ _ _ _,λk hk=>ig _ _ _ _ _ (λe=>hk ((hS.1 k).2 e)),?_⟩⟩
           .have e1:(SV.sl b ix s n cap).val ρ= .slice (some ⟨ρ.bv.getD b 0,i0,none⟩) N2 (cap.den ρ 0).toNat:=by simp[SV.val,di,dn,lZ]
            rw[e1];simp only[ax9,jT,ax0,ayj,SV.val,goInt];congr 3;have:0<=(rA sc.n (.lit N2)).den ρ 0:=by rw[oG];simp only[E.den];omega
            omega
           .have OV:=M9 k2 N2 0 (ayv (sc.n.den ρ 0).toNat N2) (a.den ρ) (a'.den ρ) ((E.jA a (.lit 0) (rA sc.n (.lit N2)) a').den ρ) (by omega) (λj=>by simp only[E.den,zK];rfl);have fO:SV.aq ρ [SV.jD k2 N2 (E.jA a (.lit 0) (rA sc.n (.lit N2)) a')]=aj k2 N2 ((E.jA a (.lit 0) (rA sc.n (.lit N2)) a').den ρ):=by simp[SV.aq,SV.cells]
            rw[fO,aH]at p1;simp only[Ck.den,p1,OV,List.take_zero,List.nil_append,Nat.zero_add,c1];rw[aH]at g2;have he:((SV.aq ρ cs).drop i0).take N2 |>.drop (ayv (sc.n.den ρ 0).toNat N2) |>.append ((SV.aq ρ cs).drop (i0+N2)) |> (· =(SV.aq ρ cs).drop (i0+ayv (sc.n.den ρ 0).toNat N2)):=by
             show List.drop _ (List.take N2 (List.drop i0 _))++List.drop (i0+N2) _=_;rw[<-List.drop_drop,<-List.drop_drop,List.drop_take];generalize (SV.aq ρ cs).drop i0=l;generalize ayv (sc.n.den ρ 0).toNat N2=m at Ka;have:l.drop N2=(l.drop m).drop (N2 - m):=by rw[List.drop_drop,Nat.add_sub_cancel' Ka]
             rw[this];exact List.take_append_drop (N2 - m) (l.drop m)
            have he:List.drop (ayv (sc.n.den ρ 0).toNat N2) (List.take N2 (List.drop i0 (SV.aq ρ cs)))++(SV.aq ρ cs).drop (i0+N2)=(SV.aq ρ cs).drop (i0+ayv (sc.n.den ρ 0).toNat N2):=he;rw[<-ayl,ayl _ _ (List.drop (i0+N2) _),he];exact g2
          .cases h
         .cases h
        .cases h
     .cases h
    .split at h
     .rename_i r hr;split at h
      .rename_i iD;obtain⟨ht,hs,hw,K8,uC⟩:=iD;rw[axV]at h;obtain⟨aS,g_,rfl⟩:=h;simp only at cA dF;obtain⟨v1,v4⟩:=bM cA;obtain⟨v1,v3⟩:=bM v1;obtain⟨v1,v2⟩:=bM v1;have v3:=br v3;have v4:=br v4;simp only[E.den]at v3 v4;have hrj:Reads hp ρ w S [r.j]:=λj hj=>dF j (by simp at hj;simp[hj])
       obtain⟨_,s2,s3⟩:=iK (te:=te) kS (λj hj=>dF j (axZ _ hj)) v2 v4;have NL:0<=(rA sc.n r.p.len).den ρ 0:=by rw[oG];omega
       have hml:(rA sc.n r.p.len).den ρ 0<=r.p.len.den ρ 0:=by rw[oG];omega
       have zK:((rA sc.n r.p.len).den ρ 0).toNat=ayv (sc.n.den ρ 0).toNat (r.p.len.den ρ 0).toNat:=by
        rw[oG];simp only[Nat.min_def,Int.min_def];split<;>split<;>omega
       obtain⟨a,c,hx,w',q1,q2,q3,q4⟩:=M8 (P:=P) hr hrj v1 K8 hw v3 NL hml (s2.trans hs.symm) g_;refine⟨w',.inl ?_,by rw[<-ht];exact q4⟩;have jT:=nQ (P:=P) tt.t ty te.t i hu hi a (r.p.len.den ρ 0).toNat c _ _ _ s3 (by rw[eL,s2,jR]) (λad had=>by
        have:=q1 ad had;have hct:=sZ (ρ:=ρ) (sc.n.den ρ 0).toNat (ayv (sc.n.den ρ 0).toNat (r.p.len.den ρ 0).toNat) sc.aB (Nat.min_le_left _ _);rw[s2]at hct;rw[jR,hct,<-zK];exact this) q3
       rw[hx];simp only[ax9,jT,ax0,ayj,SV.val,goInt];congr 3;omega
      .cases h
     .cases h
   .cases h
  .cases h
 .cases h
end
end Go.RX
