/- A device's state az it came in. -/
import Derived.Test.YtllcdnkfbeokhaaGreatM47
open Bool renaming and_eq_true → ai
open Go.Proofs.Tryz renaming prog → auN
open List renaming length_append → aum, length_map → auJ, length_singleton → aun, map_cons → auK, mem_append → auE, mem_map → auL, mem_singleton → auz, sum_cons → au7
namespace Go.RX.Vb
open Go Go.RX Go.Proofs Go.Vs
abbrev abu(p:Ly):Keys:=⟨yA p.1,p.2.1,p.2.2.1,p.2.2.2.1.2.map Bs⟩
abbrev afq(p:W5):Tab:=⟨abu p.1,p.2.1.toNat,p.2.2.1.2.map jH⟩
abbrev abv(p:LA):Vs.Call:=⟨yA p.1,p.2.1,p.2.2.1.2,p.2.2.2.1,p.2.2.2.2.1,p.2.2.2.2.2.1,p.2.2.2.2.2.2.1,yA p.2.2.2.2.2.2.2.1,p.2.2.2.2.2.2.2.2.1,p.2.2.2.2.2.2.2.2.2.1,p.2.2.2.2.2.2.2.2.2.2.1,p.2.2.2.2.2.2.2.2.2.2.2.1.2,(p.2.2.2.2.2.2.2.2.2.2.2.2.1+1).toNat,p.2.2.2.2.2.2.2.2.2.2.2.2.2.1.2.map yA,p.2.2.2.2.2.2.2.2.2.2.2.2.2.2.1,p.2.2.2.2.2.2.2.2.2.2.2.2.2.2.2.1,p.2.2.2.2.2.2.2.2.2.2.2.2.2.2.2.2.1,p.2.2.2.2.2.2.2.2.2.2.2.2.2.2.2.2.2.1,p.2.2.2.2.2.2.2.2.2.2.2.2.2.2.2.2.2.2.1,p.2.2.2.2.2.2.2.2.2.2.2.2.2.2.2.2.2.2.2.1⟩
abbrev toState(p:iW):Vs.State:=⟨p.1,p.2.1,afq p.2.2.1,abv p.2.2.2.1,p.2.2.2.2.1.2,p.2.2.2.2.2.1.2.map ss⟩
abbrev EN(p:iW):Int:=p.2.2.1.2.1
abbrev Dq(p:iW):Int:=p.2.2.2.1.2.2.2.2.2.2.2.2.2.2.2.2.1
abbrev LG(p:iW):V1:=p.2.2.1.1.2.2.2.1.1
abbrev EO(p:iW):V1:=p.2.2.1.2.2.1.1
abbrev LH(p:iW):V1:=p.2.2.2.1.2.2.1.1
abbrev EP(p:iW):V1:=p.2.2.2.1.2.2.2.2.2.2.2.2.2.2.2.1.1
abbrev ER(p:iW):V1:=p.2.2.2.1.2.2.2.2.2.2.2.2.2.2.2.2.2.1.1
abbrev W9(p:iW):V1:=p.2.2.2.2.1.1
abbrev ES(p:iW):V1:=p.2.2.2.2.2.1.1
variable {w:World}
set_option maxRecDepth 100000 in
set_option maxHeartbeats 2000000 in
theorem HD(p:iW):(kg (w:=w)).cells p=jY (toState p) (EN p) (Dq p) (LG p).v (EO p).v (LH p).v (EP p).v (ER p).v (W9 p).v (ES p).v:=by
 show aj .u8 32 (aI p.1)++([Value.int .u64 _]++(((([Value.int .u8 _]++([Value.int .u8 _]++[]))++(aj .u8 32 _++(aj .u8 32 _++([(LG p).v]++[]))))++([Value.int .i64 _]++([(EO p).v]++[])))++
  ((([Value.int .u8 _]++([Value.int .u8 _]++[]))++(aj .u8 8 _++([(LH p).v]++([Value.int .u8 _]++(aj .u8 16 _++([Value.bool _]++([Value.int .u8 _]++(([Value.int .u8 _]++([Value.int .u8 _]++[]))++(aj .u8 32 _++(aj .u8 32 _++(aj .u8 32 _++([(EP p).v]++([Value.int .i64 _]++([(ER p).v]++([Value.int .u64 _]++([Value.int .u64 _]++([Value.int .u64 _]++([Value.int .u64 _]++([Value.int .u64 _]++([Value.int .u32 _]++[]))))))))))))))))))))++
  ([(W9 p).v]++([(ES p).v]++[])))))=_
 simp only [jY,List.append_eq,List.append_assoc,List.cons_append,List.nil_append,vO]
def B8(l:List Nat):Prop:= ∀x∈l,x<256
theorem B8.app{a b:List Nat}(h:B8 a)(k:B8 b):B8 (a++b):=fun x hx=>by
 rcases auE.1 hx with hx | hx
 ·exact h x hx
 ·exact k x hx
theorem B8.be(k n:Nat):B8 (Vs.be k n):=XR k n
theorem B8.flag(b:Bool):B8 [if b then 1 else 0]:=fun x hx=>by
 rw [auz.1 hx];cases b<;>decide
theorem B8.flat{α:Type}{f:α→List Nat}{l:List α}(h: ∀a∈l,B8 (f a)):B8 (l.flatMap f):=fun x hx=>by
 obtain⟨a,ha,hx⟩:=List.mem_flatMap.1 hx;exact h a ha x hx
theorem kA{α:Type}(f:α→List Nat)(g:α→Nat): ∀l:List α,(∀a∈l,(f a).length≤g a)→(l.flatMap f).length≤(l.map g).sum
 | [],_=>by simp
 | a::l,h=>by
  have h1:=h a (by simp);have h2:=kA f g l fun x hx=>h x (by simp [hx])
  rw [List.flatMap_cons,aum,auK,au7];omega
theorem ET{α:Type}(f g:α→Nat): ∀l:List α,(∀a∈l,f a≤g a)→(l.map f).sum≤(l.map g).sum
 | [],_=>by simp
 | a::l,h=>by
  have h1:=h a (by simp);have h2:=ET f g l fun x hx=>h x (by simp [hx])
  rw [auK,au7,auK,au7];omega
theorem LI{α:Type}(c:Nat)(l:List α):(l.map fun _=>c).sum=c*l.length:=by
 induction l with
 | nil=>simp
 | cons a l ih=>
  rw [auK,au7,ih,List.length_cons,Nat.mul_succ];omega
theorem LJ{α:Type}(c:Nat)(f:α→Nat)(l:List α):(l.map fun a=>c*f a).sum=c*(l.map f).sum:=by
 induction l with
 | nil=>simp
 | cons a l ih=>rw [auK,au7,ih,auK,au7,Nat.mul_add]
theorem sum_add{α:Type}(f g:α→Nat)(l:List α):(l.map fun a=>f a+g a).sum=(l.map f).sum+(l.map g).sum:=by
 induction l with
 | nil=>simp
 | cons a l ih=>
  rw [auK,au7,ih,auK,au7,auK,au7];omega
theorem mW{α:Type}(f:α→Nat)(c:Nat)(l:List α)(h: ∀a∈l,c≤f a):c*l.length≤(l.map f).sum:=by
 rw [←LI];exact ET _ _ l h
theorem LK{α β:Type}(f:β→Nat)(g:α→β)(l:List α):((l.map g).map f).sum=(l.map fun a=>f (g a)).sum:=by
 rw [List.map_map];rfl
theorem W_{e:cf}(h:qO e):(bS.enc e).length≤400+68*e.s.aN.length:=by
 have h1:=kA dV.enc (fun _=>68) e.s.aN fun x hx=>by
  rw [vP,aum,aum,au,h.dh x hx,h.msg x hx];exact Nat.le_refl _
 rw [LI]at h1;rw [zx];simp only [aum,au,aun,h.root,h.bind,h.own,h.ej,h.sk,h.rk,h.ident,h.ux];omega
theorem Tc{p:ez}(h:kb p):(bM.enc p).length≤6+Bk p.l:=by
 have h1:=kA bS.enc (fun e=>400+68*e.s.aN.length) p.l fun e he=>W_ (h.AP e he)
 rw [vU];simp only [aum,au];have:Bk p.l=(p.l.map fun e=>400+68*e.s.aN.length).sum:=rfl;omega
structure afr (s:Vs.State):Prop where
 ok: ∀m a,m<256^4→a<256^1→s.table.most=m→s.call.fQ=a→aZ.ok s
 a:si s
 b:B8 (aZ.enc s)
 l1:s.mD.length=32
 l2:s.table.keys.ident.length=32
 l3:s.table.keys.signed.length=32
 l4: ∀x∈s.table.keys.once,x.cP.length=32
 l5:s.call.dv.length=8
 l6: ∀x∈s.call.dead,x.length=16
 l7:s.call.id.length=16
 l8:s.call.own.length=32
 l9:s.call.dx.length=32
 l10:s.call.gY.length=32
theorem Xa{s:Vs.State}(h:afr s):(aZ.enc s).length≤2*nN s+6*s.table.aL.length+700:=by
 have h1:=kA bM.enc (fun p=>6+Bk p.l) s.table.aL fun p hp=>Tc (h.a.peer p hp)
 rw [sum_add,LI]at h1;have h2:=kA dN.enc (fun _=>36) s.table.keys.once fun x hx=>by
  show(Vs.be 4 x.id++x.cP).length≤36;rw [aum,au,h.l4 x hx];exact Nat.le_refl _
 have h3:=kA (raw 16).enc (fun _=>16) s.call.dead fun x hx=>by
  show x.length≤16;rw [h.l6 x hx];exact Nat.le_refl _
 have h4:=kA gM.enc (fun _=>2) s.call.early fun x _=>by
  show(Vs.be 1 x.a++Vs.be 1 x.d).length≤2;rw [aum,au,au];exact Nat.le_refl _
 have h5:=kA dW.enc (fun _=>26) s.aH fun x hx=>by
  show(x.id++(Vs.be 1 x.aP++([if x.out then 1 else 0]++Vs.be 8 x.since))).length≤26;rw [aum,aum,aum,au,au,h.a.RM x hx];exact Nat.le_refl _
 rw [LI]at h2 h3 h4 h5;have hp:Pl s.table.aL=(s.table.aL.map fun p=>Bk p.l).sum:=rfl;rw [pG];simp only [aum,au,aun,h.l1,h.l2,h.l3,h.l5,h.l7,h.l8,h.l9,h.l10];unfold nN;omega
theorem HE(p:V1×List Bo):(EJ (w:=w)).bw p=(p.2.map (Bp (w:=w)).bw).sum+1:=rfl
theorem HF(p:Bq):(Br (w:=w)).bw p=(oK (w:=w)).bw p.1+((S7 (w:=w)).bw p.2.1+0)+1:=rfl
theorem J1(p:Lw):(S8 (w:=w)).bw p=(oK (w:=w)).bw p.1+((oK (w:=w)).bw p.2.1+((oK (w:=w)).bw p.2.2.1+((oK (w:=w)).bw p.2.2.2.1+((oB (w:=w)).bw p.2.2.2.2.1+((oB (w:=w)).bw p.2.2.2.2.2.1+((oB (w:=w)).bw p.2.2.2.2.2.2.1+((oB (w:=w)).bw p.2.2.2.2.2.2.2.1+((Br (w:=w)).bw p.2.2.2.2.2.2.2.2.1+((Br (w:=w)).bw p.2.2.2.2.2.2.2.2.2.1+((S7 (w:=w)).bw p.2.2.2.2.2.2.2.2.2.2.1+((EJ (w:=w)).bw p.2.2.2.2.2.2.2.2.2.2.2.1+0)))))))))))+1:=rfl
theorem OE(p:abo):(abp (w:=w)).bw p=(oK (w:=w)).bw p.1+((oK (w:=w)).bw p.2.1+((oB (w:=w)).bw p.2.2.1+((S7 (w:=w)).bw p.2.2.2.1+0)))+1:=rfl
theorem OF(p:CA):(CB (w:=w)).bw p=(S8 (w:=w)).bw p.1+((abp (w:=w)).bw p.2.1+((oB (w:=w)).bw p.2.2.1+((oB (w:=w)).bw p.2.2.2.1+0)))+1:=rfl
theorem J2(p:V1×List CA):(Lx (w:=w)).bw p=(p.2.map (CB (w:=w)).bw).sum+1:=rfl
theorem J3(p:tJ):(tK (w:=w)).bw p=(wm (w:=w)).bw p.1+((Lx (w:=w)).bw p.2.1+0)+1:=rfl
theorem HG(p:V1×List tJ):(EK (w:=w)).bw p=(p.2.map (tK (w:=w)).bw).sum+1:=rfl
theorem HH(p:V1×List Dn):(EL (w:=w)).bw p=(p.2.map (Hy (w:=w)).bw).sum+1:=rfl
theorem J4(p:Ly):(S9 (w:=w)).bw p=(wm (w:=w)).bw p.1+((oK (w:=w)).bw p.2.1+((oK (w:=w)).bw p.2.2.1+((EL (w:=w)).bw p.2.2.2.1+0)))+1:=rfl
theorem OG(p:W5):(abq (w:=w)).bw p=(S9 (w:=w)).bw p.1+((oi (w:=w)).bw p.2.1+((EK (w:=w)).bw p.2.2.1+0))+1:=rfl
theorem OH(p:V1×List (List Nat)):(W6 (w:=w)).bw p=(p.2.map (oI (w:=w)).bw).sum+1:=rfl
theorem J5(p:V1×List Bn):(Lz (w:=w)).bw p=(p.2.map (wm (w:=w)).bw).sum+1:=rfl
theorem Td(p:V1×List Nat):(oBy (w:=w)).bw p=(p.2.map (o8 (w:=w)).bw).sum+1:=rfl
theorem HI(p:V1×List Dp):(EM (w:=w)).bw p=(p.2.map (Hz (w:=w)).bw).sum+1:=rfl
theorem J6(p:LA):(S_ (w:=w)).bw p=(wm (w:=w)).bw p.1+((o8s (w:=w)).bw p.2.1+((W6 (w:=w)).bw p.2.2.1+((o8 (w:=w)).bw p.2.2.2.1+((oI (w:=w)).bw p.2.2.2.2.1+((oB (w:=w)).bw p.2.2.2.2.2.1+((o8 (w:=w)).bw p.2.2.2.2.2.2.1+((wm (w:=w)).bw p.2.2.2.2.2.2.2.1+((oK (w:=w)).bw p.2.2.2.2.2.2.2.2.1+((oK (w:=w)).bw p.2.2.2.2.2.2.2.2.2.1+((oK (w:=w)).bw p.2.2.2.2.2.2.2.2.2.2.1+((oBy (w:=w)).bw p.2.2.2.2.2.2.2.2.2.2.2.1+((oi (w:=w)).bw p.2.2.2.2.2.2.2.2.2.2.2.2.1+((Lz (w:=w)).bw p.2.2.2.2.2.2.2.2.2.2.2.2.2.1+((Lv (w:=w)).bw p.2.2.2.2.2.2.2.2.2.2.2.2.2.2.1+((Lv (w:=w)).bw p.2.2.2.2.2.2.2.2.2.2.2.2.2.2.2.1+((Lv (w:=w)).bw p.2.2.2.2.2.2.2.2.2.2.2.2.2.2.2.2.1+((Lv (w:=w)).bw p.2.2.2.2.2.2.2.2.2.2.2.2.2.2.2.2.2.1+((Lv (w:=w)).bw p.2.2.2.2.2.2.2.2.2.2.2.2.2.2.2.2.2.2.1+((S7 (w:=w)).bw p.2.2.2.2.2.2.2.2.2.2.2.2.2.2.2.2.2.2.2.1+0)))))))))))))))))))+1:=rfl
theorem HJ(p:iW):(kg (w:=w)).bw p=(oK (w:=w)).bw p.1+((Lv (w:=w)).bw p.2.1+((abq (w:=w)).bw p.2.2.1+((S_ (w:=w)).bw p.2.2.2.1+((oBy (w:=w)).bw p.2.2.2.2.1+((EM (w:=w)).bw p.2.2.2.2.2.1+0)))))+1:=rfl
theorem LL(l:List Nat):(oK (w:=w)).bw l=33:=rfl
theorem Xb(l:List Nat):(oI (w:=w)).bw l=17:=rfl
theorem Te(l:List Nat):(o8s (w:=w)).bw l=9:=rfl
theorem Xc(n:Nat):(o8 (w:=w)).bw n=1:=rfl
theorem HK(n:Nat):(S7 (w:=w)).bw n=1:=rfl
theorem Tf(n:Nat):(Lv (w:=w)).bw n=1:=rfl
theorem Xd(n:Int):(oi (w:=w)).bw n=1:=rfl
theorem LM(b:Bool):(oB (w:=w)).bw b=1:=rfl
theorem Dr(p:Bn):(wm (w:=w)).bw p=3:=rfl
theorem Bu(p:CA):1+(CC p).2.length≤(CB (w:=w)).bw p:=by
 have h:(CC p).2.length≤((CC p).2.map (Bp (w:=w)).bw).sum:=by
  have:=mW (Bp (w:=w)).bw 1 (CC p).2 fun a _=>Nat.le_add_left _ _
  omega
 simp only [OF,J1,OE,HF,HE,LL,LM,HK];have e:(p.1.2.2.2.2.2.2.2.2.2.2.2.1.2.map (Bp (w:=w)).bw).sum=((CC p).2.map (Bp (w:=w)).bw).sum:=rfl;omega
theorem xB(p:tJ):5+(p.2.1.2.map (CB (w:=w)).bw).sum≤(tK (w:=w)).bw p:=by
 simp only [J3,J2,Dr];omega
theorem Tg(l:List tJ):Pl (l.map jH)≤400*(l.map (tK (w:=w)).bw).sum:=by
 unfold Pl;rw [LK,←LJ];refine ET _ _ l fun p _=>?_
 have h1:Bk (jH p).l≤400*(p.2.1.2.map (CB (w:=w)).bw).sum:=by
  show Bk (p.2.1.2.map fK)≤_;unfold Bk;rw [LK,←LJ];refine ET _ _ _ fun e _=>?_
  have:=Bu (w:=w) e;show 400+68*((CC e).2.map nO).length≤_;rw [auJ];omega
 have h2:=xB (w:=w) p;omega
structure Few (s:Vs.State):Prop where
 n:nN s≤419430400
 p:s.table.aL.length≤209715
 all:s.table.keys.once.length≤1048576∧s.call.dead.length≤1048576∧s.call.marks.length≤1048576∧s.call.early.length≤1048576∧s.log.length≤1048576∧s.aH.length≤1048576
 X2: ∀q∈s.table.aL,q.l.length≤1048576∧∀e∈q.l,e.s.aN.length≤1048576
theorem EU{α:Type}(f:α→Nat): ∀(l:List α),∀a∈l,f a≤(l.map f).sum
 | b::l,a,h=>by
  rw [auK,au7];rcases List.mem_cons.1 h with rfl | h
  ·omega
  ·have:=EU f l a h;omega
set_option maxRecDepth 100000 in
theorem OI(p:iW)(hb:(kg (w:=w)).bw p≤1048576):Few (toState p):=by
 obtain⟨so,YH⟩: ∃n,n=(p.2.2.1.1.2.2.2.1.2.map (Hy (w:=w)).bw).sum:=⟨_,rfl⟩;obtain⟨sp,N4⟩: ∃n,n=(p.2.2.1.2.2.1.2.map (tK (w:=w)).bw).sum:=⟨_,rfl⟩;obtain⟨sd,Oe⟩: ∃n,n=(p.2.2.2.1.2.2.1.2.map (oI (w:=w)).bw).sum:=⟨_,rfl⟩;obtain⟨sm,uu⟩: ∃n,n=(p.2.2.2.1.2.2.2.2.2.2.2.2.2.2.2.1.2.map (o8 (w:=w)).bw).sum:=⟨_,rfl⟩;obtain⟨se,UG⟩: ∃n,n=(p.2.2.2.1.2.2.2.2.2.2.2.2.2.2.2.2.2.1.2.map (wm (w:=w)).bw).sum:=⟨_,rfl⟩;obtain⟨sl,hsl⟩: ∃n,n=(p.2.2.2.2.1.2.map (o8 (w:=w)).bw).sum:=⟨_,rfl⟩;obtain⟨sr,hsr⟩: ∃n,n=(p.2.2.2.2.2.1.2.map (Hz (w:=w)).bw).sum:=⟨_,rfl⟩;simp only [HJ,OG,J4,J6,HH,HG,OH,J5,Td,HI,LL,LM,HK,Tf,Xc,Te,Xb,Xd,Dr,←YH,←N4,←Oe,←uu,←UG,←hsl,←hsr]at hb;have h1:=mW (Hy (w:=w)).bw 35 p.2.2.1.1.2.2.2.1.2 fun a _=>Nat.le_refl _
 have h2:=mW (tK (w:=w)).bw 5 p.2.2.1.2.2.1.2 fun a _=>by have:=xB (w:=w) a;omega
 have h3:=mW (oI (w:=w)).bw 17 p.2.2.2.1.2.2.1.2 fun a _=>Nat.le_refl _
 have h4:=mW (o8 (w:=w)).bw 1 p.2.2.2.1.2.2.2.2.2.2.2.2.2.2.2.1.2 fun a _=>Nat.le_refl _
 have h5:=mW (wm (w:=w)).bw 3 p.2.2.2.1.2.2.2.2.2.2.2.2.2.2.2.2.2.1.2 fun a _=>Nat.le_refl _
 have h6:=mW (o8 (w:=w)).bw 1 p.2.2.2.2.1.2 fun a _=>Nat.le_refl _
 have h7:=mW (Hz (w:=w)).bw 21 p.2.2.2.2.2.1.2 fun a _=>Nat.le_refl _
 have h8:=Tg (w:=w) p.2.2.1.2.2.1.2;rw [←YH]at h1;rw [←N4]at h2 h8;rw [←Oe]at h3;rw [←uu]at h4;rw [←UG]at h5;rw [←hsl]at h6;rw [←hsr]at h7;have g1:(toState p).table.keys.once.length=p.2.2.1.1.2.2.2.1.2.length:=auJ ..;have g2:(toState p).table.aL.length=p.2.2.1.2.2.1.2.length:=auJ ..;have g5:(toState p).call.early.length=p.2.2.2.1.2.2.2.2.2.2.2.2.2.2.2.2.2.1.2.length:=auJ ..;have g7:(toState p).aH.length=p.2.2.2.2.2.1.2.length:=auJ ..;have g3:(toState p).call.dead.length=p.2.2.2.1.2.2.1.2.length:=rfl;have g4:(toState p).call.marks.length=p.2.2.2.1.2.2.2.2.2.2.2.2.2.2.2.1.2.length:=rfl;have g6:(toState p).log.length=p.2.2.2.2.1.2.length:=rfl;have g8:Pl (toState p).table.aL=Pl (p.2.2.1.2.2.1.2.map jH):=rfl;refine⟨?_,by omega,⟨by omega,by omega,by omega,by omega,by omega,by omega⟩,fun q hq=>?_⟩
 ·unfold nN;rw [g1,g3,g4,g5,g6,g7,g8];omega
 ·obtain⟨y,hy,rfl⟩:=auL.1 hq;have k1:=EU (tK (w:=w)).bw _ y hy;rw [←N4]at k1;have k2:=xB (w:=w) y;have k3:=mW (CB (w:=w)).bw 1 y.2.1.2 fun a _=>by have:=Bu (w:=w) a;omega
  refine⟨by rw [auJ];omega,fun e he=>?_⟩;obtain⟨z,hz,rfl⟩:=auL.1 he;have k4:=EU (CB (w:=w)).bw _ z hz;have k5:=Bu (w:=w) z;show((CC z).2.map nO).length≤_;rw [auJ];omega
open Go Go.RX Go.Proofs Go.Vs
variable {w:World}
theorem Th{p:CA}(h:(CB (w:=w)).ok p)(hs:(fK p).s.aN.length≤1048576):qO (fK p)∧bS.ok (fK p)∧B8 (bS.enc (fK p)):=by
 obtain⟨⟨k1,k2,k3,k4,_,_,_,_,⟨k5,n5,_⟩,⟨k6,n6,_⟩,n7,⟨k7,_⟩,_⟩,⟨k8,k9,_,n9,_⟩,_,_,_⟩:=h;have hd: ∀x∈(fK p).s.aN,x.dh.length=32∧x.n<256^4∧x.msg.length=32∧B8 x.dh∧B8 x.msg:=fun x hx=>by
  obtain⟨y,hy,rfl⟩:=auL.1 hx;obtain⟨q1,q2,q3,_⟩:=k7 y hy;exact⟨q1.1,q2,q3.1,q1.2,q3.2⟩
 have hn:(fK p).s.aN.length<256^4:=Nat.lt_of_le_of_lt hs (by decide);refine⟨⟨k1.1,k2.1,k3.1,k4.1,k5.1,n5,k6.1,n6,n7,hn,fun x hx=>(hd x hx).1,fun x hx=>(hd x hx).2.1,fun x hx=>(hd x hx).2.2.1,k8.1,k9.1,n9⟩,⟨⟨k1.1,k2.1,k3.1,k4.1,trivial,trivial,trivial,trivial,⟨k5.1,n5⟩,⟨k6.1,n6⟩,n7,hn,fun x hx=>⟨(hd x hx).1,(hd x hx).2.1,(hd x hx).2.2.1⟩⟩,k8.1,k9.1,trivial,n9,trivial,trivial⟩,?_⟩;rw [zx];exact B8.app (B8.app k1.2 (B8.app k2.2 (B8.app k3.2 (B8.app k4.2 (B8.app (B8.flag _) (B8.app (B8.flag _) (B8.app (B8.flag _) (B8.app (B8.flag _) (B8.app (B8.app k5.2 (B8.be _ _)) (B8.app (B8.app k6.2 (B8.be _ _)) (B8.app (B8.be _ _) (B8.app (B8.be _ _) (B8.flat fun x hx=>by
  rw [vP];exact B8.app (hd x hx).2.2.2.1 (B8.app (B8.be _ _) (hd x hx).2.2.2.2)))))))))))))) (B8.app k8.2 (B8.app k9.2 (B8.app (B8.flag _) (B8.app (B8.be _ _) (B8.app (B8.flag _) (B8.flag _))))))
theorem OJ{p:tJ}(h:(tK (w:=w)).ok p)(hs:(jH p).l.length≤1048576∧∀e∈(jH p).l,e.s.aN.length≤1048576):kb (jH p)∧bM.ok (jH p)∧B8 (bM.enc (jH p)):=by
 obtain⟨⟨a,d,_⟩,⟨hl,_⟩,_⟩:=h;have he: ∀e∈(jH p).l,qO e∧bS.ok e∧B8 (bS.enc e):=fun e hx=>by
  obtain⟨y,hy,rfl⟩:=auL.1 hx;exact Th (hl y hy) (hs.2 _ hx)
 have hn:(jH p).l.length<256^4:=Nat.lt_of_le_of_lt hs.1 (by decide);refine⟨⟨a,d,hn,fun e hx=>(he e hx).1⟩,⟨⟨a,d⟩,hn,fun e hx=>(he e hx).2.1⟩,?_⟩;rw [vU];exact B8.app (B8.app (B8.be _ _) (B8.be _ _)) (B8.app (B8.be _ _) (B8.flat fun e hx=>(he e hx).2.2))
set_option maxRecDepth 100000 in
theorem J7{p:iW}(h:(kg (w:=w)).ok p)(f:Few (toState p)):afr (toState p):=by
 obtain⟨s1,s2,⟨⟨⟨a1,a2,_⟩,a3,a4,⟨a5,_⟩,_⟩,_,⟨a6,_⟩,_⟩,⟨⟨c1,c2,_⟩,c3,⟨c4,_⟩,c5,c6,_,c7,⟨c8,c9,_⟩,c10,GI,GJ,⟨c13,_⟩,_,⟨c14,_⟩,c15,c16,c17,c18,c19,c20,_⟩,⟨l1,_⟩,⟨r1,_⟩,_⟩:=h;have big: ∀{n:Nat},n≤1048576→n<256^4:=fun h=>Nat.lt_of_le_of_lt h (by decide)
 have ho: ∀x∈(toState p).table.keys.once,x.id<256^4∧x.cP.length=32∧B8 x.cP:=fun x hx=>by
  obtain⟨y,hy,rfl⟩:=auL.1 hx;obtain⟨q1,q2,_⟩:=a5 y hy;exact⟨q1,q2.1,q2.2⟩
 have hp: ∀x∈(toState p).table.aL,kb x∧bM.ok x∧B8 (bM.enc x):=fun x hx=>by
  obtain⟨y,hy,rfl⟩:=auL.1 hx;exact OJ (a6 y hy) (f.X2 _ hx)
 have he: ∀x∈(toState p).call.early,x.a<256^1∧x.d<256^1:=fun x hx=>by
  obtain⟨y,hy,rfl⟩:=auL.1 hx;obtain⟨q1,q2,_⟩:=c14 y hy;exact⟨q1,q2⟩
 have hr: ∀x∈(toState p).aH,x.id.length=16∧B8 x.id∧x.aP<256^1∧x.since<256^8:=fun x hx=>by
  obtain⟨y,hy,rfl⟩:=auL.1 hx;obtain⟨q1,q2,_,q3,_⟩:=r1 y hy;exact⟨q1.1,q1.2,q2,q3⟩
 obtain⟨b1,b2,b3,b4,b5,b6⟩:=f.all;refine⟨fun m a hm ha e1 e2=>⟨s1.1,s2,⟨⟨⟨a1,a2⟩,a3.1,a4.1,big b1,fun x hx=>⟨(ho x hx).1,(ho x hx).2.1⟩⟩,by rw [←e1]at hm;exact hm,big (Nat.le_trans f.p (by decide)),fun x hx=>(hp x hx).2.1⟩,
  ⟨⟨c1,c2⟩,c3.1,⟨big b2,fun x hx=>(c4 x hx).1⟩,c5,c6.1,trivial,c7,⟨c8,c9⟩,c10.1,GI.1,GJ.1,big b3,by rw [←e2]at ha;exact ha,⟨big b4,fun x hx=>he x hx⟩,c15,c16,c17,c18,c19,c20⟩,big b5,⟨big b6,fun x hx=>⟨(hr x hx).1,(hr x hx).2.2.1,trivial,(hr x hx).2.2.2⟩⟩⟩,
  ⟨big b1,big (Nat.le_trans f.p (by decide)),fun x hx=>(hp x hx).1,big b2,big b3,big b4,⟨fun x hx=>l1 x hx,Nat.le_trans b5 (by decide)⟩,big b6,fun x hx=>(hr x hx).1⟩,?_,s1.1,a3.1,a4.1,fun x hx=>(ho x hx).2.1,c3.1,fun x hx=>(c4 x hx).1,c6.1,c10.1,GI.1,GJ.1⟩
 rw [pG];have be:=B8.be;exact B8.app s1.2 (B8.app (be _ _) (B8.app (B8.app (B8.app (B8.app (be _ _) (be _ _)) (B8.app a3.2 (B8.app a4.2 (B8.app (be _ _) (B8.flat fun x hx=>B8.app (be _ _) (ho x hx).2.2))))) (B8.app (be _ _) (B8.app (be _ _) (B8.flat fun x hx=>(hp x hx).2.2))))
  (B8.app (B8.app (B8.app (be _ _) (be _ _)) (B8.app c3.2 (B8.app (B8.app (be _ _) (B8.flat fun x hx=>(c4 x hx).2)) (B8.app (be _ _) (B8.app c6.2 (B8.app (B8.flag _) (B8.app (be _ _) (B8.app (B8.app (be _ _) (be _ _)) (B8.app c10.2 (B8.app GI.2 (B8.app GJ.2 (B8.app (B8.app (be _ _) fun x hx=>c13 x hx) (B8.app (be _ _) (B8.app (B8.app (be _ _) (B8.flat fun x hx=>B8.app (be _ _) (be _ _))) (B8.app (be _ _) (B8.app (be _ _) (B8.app (be _ _) (B8.app (be _ _) (B8.app (be _ _) (be _ _))))))))))))))))))))
  (B8.app (B8.app (be _ _) fun x hx=>l1 x hx) (B8.app (be _ _) (B8.flat fun x hx=>B8.app (hr x hx).2.1 (B8.app (be _ _) (B8.app (B8.flag _) (be _ _)))))))))
theorem Ti{p:iW}(h:(kg (w:=w)).ok p)(hb:(kg (w:=w)).bw p≤1048576):afm (toState p) (EN p) (Dq p):=by
 have f:=OI p hb;have g:=J7 h f;have hl:=Xa g;have h1:=f.n;have h2:=f.p;refine⟨g.a,fun hm=>?_,⟨g.b,by omega⟩,by omega,fun hn=>by omega⟩;simp only [kf,ai,decide_eq_true_eq]at hm;obtain⟨⟨⟨⟨m1,m2⟩,m3⟩,m4⟩,_⟩:=hm;have e1:EN p=((toState p).table.most:Int):=(Int.toNat_of_nonneg m1).symm;have e2:Dq p=((toState p).call.fQ:Int) - 1:=by
  have:((toState p).call.fQ:Int)=Dq p+1:=Int.toNat_of_nonneg (a:=Dq p+1) (by omega);omega
 refine⟨e1,e2,g.ok _ _ ?_ ?_ rfl rfl⟩
 ·have:((toState p).table.most:Int)≤2147483647:=by omega
  rw [show(256^4:Nat)=4294967296 by decide];omega
 ·rw [show(256^1:Nat)=256 by decide];omega
theorem OK{p:iW}(h:(kg (w:=w)).ok p): ∃C:Nat→Int,(∀x∈ef false (toState p) C (LG p).v (EO p).v (LH p).v (EP p).v (ER p).v (W9 p).v (ES p).v,x.wr=false∧GN w x)∧lg (pW w.heap.size w) (toState p).table.aL C:=by
 obtain⟨_,_,⟨⟨_,_,_,a5,_⟩,_,a6,_⟩,⟨_,_,c4,_,_,_,_,_,_,_,_,c13,_,c14,_⟩,l1,r1,_⟩:=h;obtain⟨C,h1,h2⟩:=Tb a6;refine⟨C,fun x hx=>?_,h2⟩;simp only [List.mem_cons,List.not_mem_nil,or_false]at hx;rcases hx with rfl | rfl | rfl | rfl | rfl | rfl | rfl
 ·exact⟨rfl,W7 a5⟩
 ·exact⟨rfl,h1⟩
 ·exact⟨rfl,abt c4⟩
 ·exact⟨rfl,HB c13⟩
 ·exact⟨rfl,W8 c14⟩
 ·exact⟨rfl,HB l1⟩
 ·exact⟨rfl,Ta r1⟩
end Go.RX.Vb

namespace Go.RX
open Go
theorem EV{P:Program}{f:FuncId}{fn:Func}{s:ChangeSpec}{c:OpenClaim}
  (a:(c.wf (OpenSpec.ofChange s)&&laidOutB P&&mapsRowed P)=true)
  (b:(fn.params.all (P.readableRec ·)&&namedTie P c.named s.vars&&(c.stops==[])&&(P.stops==[])&&(c.knobs==[])&&(P.stopKnobs==[]))=true)
  (c1:(c.inPlace==P.inPlace f)=true) (c2:(c.unfollowed==P.unfollowed f)=true) (c3:(c.recurses==P.recurses f)=true) (c4:(c.named==P.varsNamed f)=true)
  (d:((c.maps==(fn.params.toList++s.plain.varTypes P).any (P.mapsRec ·))&&(c.ifaces==(fn.params.toList++s.plain.varTypes P).any (P.ifacesRec ·))&&(c.mapsOut==P.mapsAmong fn.resultTypes.toList)&&(c.loops==(fn.params.toList++s.plain.varTypes P).any (P.loopsFrom ·))&&(c.wideKeys==(fn.params.toList++s.plain.varTypes P++fn.resultTypes.toList).any (P.wideKeysFrom ·))&&s.vars.all (P.varReadable ·)&&fn.resultTypes.all (fun t=>P.readableRec t&&decide (t<P.types.size))&&(c.ifacesOut==fn.resultTypes.toList.any (P.ifacesRec ·))&&(c.loopsOut==fn.resultTypes.toList.any (P.loopsFrom ·)))=true)
  (e:((c.plainKeys==P.plainKeys)&&c.shortTexts.isNone&&P.stopsHeard&&P.mayEnter&&(c.lifted==P.liftsFinal)&&(P.make==some c.make)&&(c.kinds==(if c.domain.isEmpty then []else fn.params.toList.map fun t=>match P.underlying t with | some (.int k)=>some k | _=>none))&&(c.pinned==c.pinnedBy))=true)
  (g:((c.veiled==(fn.params.toList++s.plain.varTypes P++fn.resultTypes.toList).any (P.veiledRec ·))&&c.veiledFits P fn.params.toList (fn.params.toList++s.plain.varTypes P++fn.resultTypes.toList))=true):joinedFacts P f fn s c=true:=by
 unfold joinedFacts;simp only [ai]at a b d e g ⊢;obtain⟨⟨a1,a2⟩,a3⟩:=a;obtain⟨⟨⟨⟨⟨b1,b2⟩,b3⟩,b4⟩,b5⟩,b6⟩:=b;obtain⟨⟨⟨⟨⟨⟨⟨⟨d1,d2⟩,d3⟩,d4⟩,d5⟩,d6⟩,d7⟩,d8⟩,d9⟩:=d;obtain⟨⟨⟨⟨⟨⟨⟨e1,e2⟩,e3⟩,e4⟩,e5⟩,e6⟩,e7⟩,e8⟩:=e;exact⟨⟨⟨⟨⟨⟨⟨⟨⟨⟨⟨⟨⟨⟨⟨⟨⟨⟨⟨⟨⟨⟨⟨⟨⟨⟨⟨⟨⟨⟨⟨a1,a2⟩,a3⟩,b1⟩,b2⟩,b3⟩,b4⟩,b5⟩,b6⟩,c1⟩,c2⟩,c3⟩,c4⟩,d1⟩,d2⟩,d3⟩,d4⟩,d5⟩,d6⟩,d7⟩,d8⟩,d9⟩,e1⟩,e2⟩,e3⟩,e4⟩,e5⟩,e6⟩,e7⟩,e8⟩,g.1⟩,g.2⟩
end Go.RX

namespace Go.Proofs.YtllcdnkfbeokhaaGreat.storeBack
set_option maxRecDepth 100000
theorem j1:(Rows.storeBackUptoRow.inPlace==Tryz.prog.inPlace 6)=true:=by kernel_rfl
theorem j2:(Rows.storeBackUptoRow.unfollowed==Tryz.prog.unfollowed 6)=true:=by kernel_rfl
theorem j3:(Rows.storeBackUptoRow.recurses==Tryz.prog.recurses 6)=true:=by kernel_rfl
theorem j4:(Rows.storeBackUptoRow.named==Tryz.prog.varsNamed 6)=true:=by kernel_rfl
theorem closed:joinedFacts auN 6 Tryz.f6 (Rows.OpenSpec.upto Rows.storeBackSpec).bare Rows.storeBackUptoRow=true:=
 RX.EV (by kernel_rfl) (by kernel_rfl) j1 j2 j3 j4 (by kernel_rfl) (by kernel_rfl) (by kernel_rfl)
end Go.Proofs.YtllcdnkfbeokhaaGreat.storeBack
