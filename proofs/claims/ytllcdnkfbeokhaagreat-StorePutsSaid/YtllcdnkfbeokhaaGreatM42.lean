/- StoreBack. -/
import Derived.Test.YtllcdnkfbeokhaaGreatM41
open Bool renaming and_eq_true -> ai
open Go.IntKind renaming wrap -> ae
open Go.Proofs.Tryz renaming prog -> ax8
open Go.Value renaming int -> ayD
open Int renaming toNat -> ag
open List renaming append -> axQ, append_assoc -> ayl, flatMap_cons -> ayn, getD_eq_getElem?_getD -> ayk, getElem?_eq_getElem -> ays, length_append -> axP, length_cons -> ax5, length_map -> ayd, length_singleton -> axR, map_cons -> ayr, mem_append -> ax_, mem_map -> ayg, mem_range -> ayc, mem_singleton -> ax2
namespace Go.RX.Vb
open Go Go.RX Go.Proofs Go.Vs
theorem sV{s:Vs.State}{C:Nat->Int}{u1 u2 u3 u4 u5 u6 u7:Value}{H:HP}(hH:H.wr=false): ∀h∈ef false s C u1 u2 u3 u4 u5 u6 u7++[H],h.wr=false:=by
 intro h hh;rcases ax_.1 hh with hh | hh
 .exact lookW rfl h hh
 .rw [ax2.1 hh];exact hH
theorem Ua(s:Vs.State)(most cP:Int)(u1 u2 u3 u4 u5 u6 u7:V1)(C:Nat->Int)(H:HP)(hH:H.wr=false)(hP:lK H s.table.aD C)(hs:sQ s)(hm:lL s most cP=true->most=(s.table.most:Int)/\cP=(s.call.fu:Int) - 1/\zR s)(hb:hZ (aX.enc s)):
  ao ax8 9 [.agg (kI s most cP u1.v u2.v u3.v u4.v u5.v u6.v u7.v).toArray] (ef false s C u1.v u2.v u3.v u4.v u5.v u6.v u7.v++[H]) λr hs=>
   ∃o:V1,r= .tuple #[o.v,.int .i64 (nh s most cP)]/\hs=ef false s C u1.v u2.v u3.v u4.v u5.v u6.v u7.v++[H]++[aN true o.v (jB s most cP)]:=by
 refine ao.post (ao.E6 (D4 s most cP u1 u2 u3 u4 u5 u6 u7 C H hH hP hs hm hb) (sV hH)) ?_;rintro r hs ⟨nw,rfl,h1,h2,h3⟩;cases kA:lL s most cP with
 | false=>
  obtain⟨rfl,rfl⟩:=h1 kA;have e:nh s most cP=2:=by unfold nh;rw[kA];rfl
  have e2:jB s most cP=[]:=by unfold jB;rw[e];rfl
  rw[e,e2];exact⟨_,bq.front (a:=[]) (bq.tN 5 1),bh,rfl,rfl⟩
 | true=>
  by_cases hl:4194286<(aX.enc s).length
  .obtain⟨rfl,rfl⟩:=h2 kA hl;have e:nh s most cP=3:=by unfold nh;rw[if_pos kA,if_pos hl]
   have e2:jB s most cP=[]:=by unfold jB;rw[e];rfl
   rw[e,e2];exact⟨_,bq.front (a:=[]) (bq.tN 5 1),bh,rfl,rfl⟩
  .obtain⟨o,rfl,rfl⟩:=h3 kA (by omega);have e:nh s most cP=0:=by unfold nh;rw[if_pos kA,if_neg hl]
   have e2:jB s most cP=eP (aX.enc s):=by unfold jB;rw[if_pos e]
   rw[e,e2];exact⟨_,bq.refl _,o,rfl,rfl⟩
theorem KO(s:Vs.State)(most cP:Int)(u1 u2 u3 u4 u5 u6 u7:V1)(C:Nat->Int)(H:HP)(hH:H.wr=false)(hP:lK H s.table.aD C)(hs:sQ s):
  ao ax8 8 [.agg (kI s most cP u1.v u2.v u3.v u4.v u5.v u6.v u7.v).toArray] (ef false s C u1.v u2.v u3.v u4.v u5.v u6.v u7.v++[H]) λr hs=>hs=ef false s C u1.v u2.v u3.v u4.v u5.v u6.v u7.v++[H]/\r= .bool (decide (60000<ae .i64 (ni s:Int))):=
 ao.looks (KN s most cP u1 u2 u3 u4 u5 u6 u7 C H hH hP hs) (sV hH)
theorem Pp(s:Vs.State)(u1 u2 u3 u4 u5 u6 u7:V1)(C:Nat->Int)(H:HP)(hH:H.wr=false)(hP:lK H s.table.aD C)(hs:zR s)(hl:(aX.enc s).length<=140737488355328):
  ao ax8 13 [.agg (j7 s u1.v u2.v u3.v u4.v u5.v u6.v u7.v).toArray] (ef false s C u1.v u2.v u3.v u4.v u5.v u6.v u7.v++[H]) λr hs=> ∃o:V1,r=o.v/\hs=ef false s C u1.v u2.v u3.v u4.v u5.v u6.v u7.v++[H]++[aN true o.v (aX.enc s)]:=by
 refine ao.post (ao.E6 (uY s u1 u2 u3 u4 u5 u6 u7 C H hH hP hs hl) (sV hH)) ?_;rintro r hs ⟨nw,rfl,o,rfl,rfl⟩;exact⟨_,bq.refl _,o,rfl,rfl⟩
theorem Iw(v:Value)(hv:v.oneCell'=true)(l:List Nat)(h: ∀x∈l,x<256)(hn:l.length<256^4)(B:List HP)(hB:aZ B (aN false v l)):ao ax8 14 [v] B λr hs=> ∃o:V1,r=o.v/\hs=B++[aN true o.v (eP l)]:=by
 have h0:ao ax8 14 [v] ([]++[aN false v l]) λr hs=> ∃o:V1,r=o.v/\hs=[aN true o.v (eP l)]:=Io ⟨v,hv⟩ l h hn
 refine ao.post (ao.C3 (B:=B) h0 ?_ ?_) ?_
 .rintro _ hs ⟨o,_,rfl⟩ x hx;rw[ax2.1 hx];rfl
 .intro x hx;rw[ax2.1 hx];exact hB
 .rintro r hs ⟨zF,⟨o,rfl,rfl⟩,rfl⟩;exact⟨_,bq.perm List.perm_append_comm,o,rfl,rfl⟩
structure ahV (s:Vs.State) (most cP:Int):Prop where
 a:sQ s
 may:lL s most cP=true->most=(s.table.most:Int)/\cP=(s.call.fu:Int) - 1/\aX.ok s
 b:hZ (aX.enc s)
 n:ni s<=9223372036854775807
 few:ni s<=60000->(aX.enc s).length<=4194285
open Go Go.RX Go.Proofs Go.Vs
open Go.Proofs.YtllcdnkfbeokhaaGreat
section
variable {w:World}
noncomputable def oK:rN w 23 (List Nat):=BA 32 Tryz.underlying23 (by kernel_rfl)
noncomputable def oI:rN w 36 (List Nat):=BA 16 Tryz.underlying36 (by kernel_rfl)
noncomputable def o8s:rN w 33 (List Nat):=BA 8 Tryz.underlying33 (by kernel_rfl)
noncomputable def o8:rN w 5 Nat:=aaI .u8 1 Tryz.underlying5 (by kernel_rfl) (by decide)
noncomputable def Ub:rN w 39 Nat:=aaI .u32 4 Tryz.underlying39 (by kernel_rfl) (by decide)
noncomputable def Mu:rN w 24 Nat:=aaI .u64 8 Tryz.underlying24 (by kernel_rfl) (by decide)
noncomputable def oi:rN w 3 Int:=aaH .i64 Tryz.underlying3 (by kernel_rfl)
noncomputable def oB:rN w 4 Bool:=Wy Tryz.underlying4 (by kernel_rfl)
noncomputable def oBy:rN w 37 (V1×List Nat):=mP o8 Tryz.underlying37 (by kernel_rfl) rfl
abbrev B4:=Nat×Nat×Unit
noncomputable def wT:rN w 26 B4:=fV Tryz.underlying26 (aW o8 (aW o8 mw)) (by kernel_rfl) (by kernel_rfl)
abbrev D7:=Nat×List Nat×Unit
noncomputable def Ix:rN w 93 D7:=fV Tryz.underlying93 (aW Ub (aW oK mw)) (by kernel_rfl) (by kernel_rfl)
abbrev B5:=List Nat×Nat×List Nat×Unit
noncomputable def B6:rN w 245 B5:=fV Tryz.underlying245 (aW oK (aW Ub (aW oK mw))) (by kernel_rfl) (by kernel_rfl)
abbrev B7:=List Nat×Nat×Unit
noncomputable def B9:rN w 70 B7:=fV Tryz.underlying70 (aW oK (aW Ub mw)) (by kernel_rfl) (by kernel_rfl)
noncomputable def Fo:rN w 71 (V1×List B5):=mP B6 Tryz.underlying71 (by kernel_rfl) rfl
abbrev Mv:=List Nat×List Nat×List Nat×List Nat×Bool×Bool×Bool×Bool×B7×B7×Nat×(V1×List B5)×Unit
noncomputable def Uc:rN w 73 Mv:=fV Tryz.underlying73 (aW oK (aW oK (aW oK (aW oK (aW oB (aW oB (aW oB (aW oB (aW B9 (aW B9 (aW Ub (aW Fo mw)))))))))))) (by kernel_rfl) (by kernel_rfl)
abbrev acT:=List Nat×List Nat×Bool×Nat×Unit
noncomputable def acU:rN w 75 acT:=fV Tryz.underlying75 (aW oK (aW oK (aW oB (aW Ub mw)))) (by kernel_rfl) (by kernel_rfl)
abbrev Db:=Mv×acT×Bool×Bool×Unit
noncomputable def Dc:rN w 77 Db:=fV Tryz.underlying77 (aW Uc (aW acU (aW oB (aW oB mw)))) (by kernel_rfl) (by kernel_rfl)
noncomputable def Mw:rN w 66 (V1×List Db):=mP Dc Tryz.underlying66 (by kernel_rfl) rfl
abbrev ui:=B4×(V1×List Db)×Unit
noncomputable def uj:rN w 68 ui:=fV Tryz.underlying68 (aW wT (aW Mw mw)) (by kernel_rfl) (by kernel_rfl)
noncomputable def Fp:rN w 30 (V1×List ui):=mP uj Tryz.underlying30 (by kernel_rfl) rfl
noncomputable def Fq:rN w 27 (V1×List D7):=mP Ix Tryz.underlying27 (by kernel_rfl) rfl
abbrev Mx:=B4×List Nat×List Nat×(V1×List D7)×Unit
noncomputable def Ud:rN w 29 Mx:=fV Tryz.underlying29 (aW wT (aW oK (aW oK (aW Fq mw)))) (by kernel_rfl) (by kernel_rfl)
abbrev XV:=Mx×Int×(V1×List ui)×Unit
noncomputable def acV:rN w 32 XV:=fV Tryz.underlying32 (aW Ud (aW oi (aW Fp mw))) (by kernel_rfl) (by kernel_rfl)
noncomputable def XW:rN w 34 (V1×List (List Nat)):=mP oI Tryz.underlying34 (by kernel_rfl) rfl
noncomputable def My:rN w 38 (V1×List B4):=mP wT Tryz.underlying38 (by kernel_rfl) rfl
abbrev Mz:=B4×List Nat×(V1×List (List Nat))×Nat×List Nat×Bool×Nat×B4×List Nat×List Nat×List Nat×(V1×List Nat)×Int×(V1×List B4)×Nat×Nat×Nat×Nat×Nat×Nat×Unit
noncomputable def Ue:rN w 41 Mz:=fV Tryz.underlying41 (aW wT (aW o8s (aW XW (aW o8 (aW oI (aW oB (aW o8 (aW wT (aW oK (aW oK (aW oK (aW oBy (aW oi (aW My (aW Mu (aW Mu (aW Mu (aW Mu (aW Mu (aW Ub mw)))))))))))))))))))) (by kernel_rfl) (by kernel_rfl)
abbrev D8:=List Nat×Nat×Bool×Nat×Unit
noncomputable def Iy:rN w 98 D8:=fV Tryz.underlying98 (aW oI (aW o8 (aW oB (aW Mu mw)))) (by kernel_rfl) (by kernel_rfl)
noncomputable def Ft:rN w 42 (V1×List D8):=mP Iy Tryz.underlying42 (by kernel_rfl) rfl
abbrev iQ:=List Nat×Nat×XV×Mz×(V1×List Nat)×(V1×List D8)×Unit
noncomputable def ke:rN w 44 iQ:=fV Tryz.underlying44 (aW oK (aW Mu (aW acV (aW Ue (aW oBy (aW Ft mw)))))) (by kernel_rfl) (by kernel_rfl)
end
open Go Go.RX Go.Proofs Go.Vs
abbrev zh(p:B4):js:=⟨p.1,p.2.1⟩
abbrev B_(p:D7):dj:=⟨p.1,p.2.1⟩
abbrev oD(p:B5):fe:=⟨p.1,p.2.1,p.2.2.1⟩
abbrev MA(p:B7):yX:=⟨p.1,p.2.1⟩
abbrev Dd(p:Db):V1×List B5:=p.1.2.2.2.2.2.2.2.2.2.2.2.1
abbrev acW(p:Mv):Hj:=⟨p.1,p.2.1,p.2.2.1,p.2.2.2.1,p.2.2.2.2.1,p.2.2.2.2.2.1,p.2.2.2.2.2.2.1,p.2.2.2.2.2.2.2.1,MA p.2.2.2.2.2.2.2.2.1,MA p.2.2.2.2.2.2.2.2.2.1,p.2.2.2.2.2.2.2.2.2.2.1,p.2.2.2.2.2.2.2.2.2.2.2.1.2.map oD⟩
abbrev gl(p:Db):bX:=⟨acW p.1,p.2.1.1,p.2.1.2.1,p.2.1.2.2.1,p.2.1.2.2.2.1,p.2.2.1,p.2.2.2.1⟩
abbrev kf(p:ui):eu:=⟨zh p.1,p.2.1.2.map gl⟩
abbrev sW(p:D8):Room:=⟨p.1,p.2.1,p.2.2.1,p.2.2.2.1⟩
section
variable {α:Type}
theorem ph(g:α->List Nat)(n:Nat)(s:List α)(hs: ∀x∈s,(g x).length=n)(i:Nat)(h:i<s.length):ax .u8 n (cb g s) i=aj .u8 n (aJ (g s[i])):=by
 unfold ax aj;refine List.map_congr_left λj hj=>?_
 show ayD .u8 (aJ (s.flatMap g) (i*n+j))=_;rw[jX g n s hs i j h (ayc.1 hj)]
theorem rJ(k:IntKind)(g:α->Nat)(s:List α)(i:Nat)(h:i<s.length):ax k 1 (bu g s) i=[.int k ((g s[i]:Nat):Int)]:=by
 show [ayD k (bu g s (i*1+0))]=_;rw[show i*1+0=i by omega,ej g s i h]
theorem wV(g:α->Bool)(s:List α)(i:Nat)(h:i<s.length):cR 1 (dK g s) i=[.bool (g s[i])]:=by
 show [Value.bool (!(dK g s (i*1+0)==0))]=_;rw[show i*1+0=i by omega,gW g s i h,jv]
theorem ZB(C:Nat->Int)(i:Nat):cV 1 (λj=>bg (C j)) i=[bg (C i)]:=by
 show [bg (C (i*1+0))]=_;rw[show i*1+0=i by omega]
theorem oE(f:α->List Value)(aB:List (Nat->List Value))(l:List α)(h: ∀(i:Nat) (hi:i<l.length),f l[i]=aB.flatMap λc=>c i):l.flatMap f=aG l.length aB:=by
 cases l with
 | nil=>rfl
 | cons x0 l0=>
  rw[BB f _ x0];unfold aG;rw[List.flatMap_def,List.flatMap_def];congr 1;refine List.map_congr_left λi hi=>?_
  have hi:=ayc.1 hi;rw[<-h i hi,ayk,ays hi];rfl
end
variable {w:World}
theorem pj{t s n n':Nat}{v:Value}{cs qE:List Value}(h:Hy w (aA false t s v n cs))(hn:n=n')(hc:cs=qE):Hy w (aA false t s v n' qE):=by
 subst hn;subst hc;exact h
theorem MB{t s n:Nat}{v:Value}{cs:List Value}(h:Hy w (aA false t s v n cs)): ∃c:Int,v=bg c:=by
 obtain⟨S,⟨h1,_⟩,_⟩:=h;simp only[Bool.false_eq_true,if_false]at h1;obtain⟨_,a,m,c,rfl,_⟩:=h1;exact vu a m c
theorem ry{h:HP}(hi:Hy w h)(hw:h.wr=false):cX (nZ w.heap.size w) h:=by
 obtain⟨S',hp,hk⟩:=hi;refine⟨hw,λw' S hS=>⟨S',λk hs=>(hS.1 k).2 (hk k hs),?_⟩⟩;exact HP.eU _ w w' S' hp λk hs=>hS.2 k (hk k hs)
theorem wW{p:V1×List Nat}(h:(oBy (w:=w)).ok p):Hy w (aN false p.1.v p.2):=by
 refine pj h.2 rfl (oE (λn:Nat=>[.int .u8 (n:Int)]) [ax .u8 1 (aJ p.2)] p.2 λi hi=>?_);show _=ax .u8 1 (aJ p.2) i++[];rw[List.append_nil];show _=[ayD .u8 (aJ p.2 (i*1+0))];rw[show i*1+0=i by omega,gL hi]
theorem XX{p:V1×List D7}(h:(Fq (w:=w)).ok p):Hy w (C8 false p.1.v (p.2.map B_)):=by
 have hk: ∀x∈p.2.map B_,x.cT.length=32:=λx hx=>by
  obtain⟨y,hy,rfl⟩:=ayg.1 hx;exact(h.1 y hy).2.1.1
 refine pj h.2 (by rw[ayd]) ((oE (Ix (w:=w)).cells _ p.2 λi hi=>?_).trans (by rw[ayd]));show [ayD .u32 _]++(aj .u8 32 _++[])=ax .u32 1 (bu dj.id (p.2.map B_)) i++(ax .u8 32 (cb dj.cT (p.2.map B_)) i++[]);rw[rJ _ _ _ i (by rw[ayd];exact hi),ph _ 32 _ hk i (by rw[ayd];exact hi),List.getElem_map]
theorem acX{p:V1×List (List Nat)}(h:(XW (w:=w)).ok p):Hy w (y5 false p.1.v p.2):=by
 refine pj h.2 rfl (oE (oI (w:=w)).cells _ p.2 λi hi=>?_);show aj .u8 16 _=ax .u8 16 (cb (λx=>x) p.2) i++[];rw[ph _ 16 _ (λx hx=>(h.1 x hx).1) i hi,List.append_nil]
theorem XY{p:V1×List B4}(h:(My (w:=w)).ok p):Hy w (y6 false p.1.v (p.2.map zh)):=by
 refine pj h.2 (by rw[ayd]) ((oE (wT (w:=w)).cells _ p.2 λi hi=>?_).trans (by rw[ayd]));show [ayD .u8 _]++([ayD .u8 _]++[])=ax .u8 1 (bu js.a (p.2.map zh)) i++(ax .u8 1 (bu js.d (p.2.map zh)) i++[]);rw[rJ _ _ _ i (by rw[ayd];exact hi),rJ _ _ _ i (by rw[ayd];exact hi),List.getElem_map]
theorem Uf{p:V1×List D8}(h:(Ft (w:=w)).ok p):Hy w (ue false p.1.v (p.2.map sW)):=by
 have hk: ∀x∈p.2.map sW,x.id.length=16:=λx hx=>by
  obtain⟨y,hy,rfl⟩:=ayg.1 hx;exact(h.1 y hy).1.1
 refine pj h.2 (by rw[ayd]) ((oE (Iy (w:=w)).cells _ p.2 λi hi=>?_).trans (by rw[ayd]));show aj .u8 16 _++([ayD .u8 _]++([Value.bool _]++([ayD .u64 _]++[])))=ax .u8 16 (cb Room.id (p.2.map sW)) i++(ax .u8 1 (bu Room.aM (p.2.map sW)) i++(cR 1 (dK Room.out (p.2.map sW)) i++(ax .u64 1 (bu Room.since (p.2.map sW)) i++[])));have cj:i<(p.2.map sW).length:=by rw[ayd];exact hi
 rw[ph _ 16 _ hk i cj,rJ _ _ _ i cj,wV _ _ i cj,rJ _ _ _ i cj,List.getElem_map]
theorem Iz{p:V1×List B5}(h:(Fo (w:=w)).ok p):Hy w (nI false p.1.v (p.2.map oD)):=by
 have h1: ∀x∈p.2.map oD,x.dh.length=32:=λx hx=>by
  obtain⟨y,hy,rfl⟩:=ayg.1 hx;exact(h.1 y hy).1.1
 have h2: ∀x∈p.2.map oD,x.msg.length=32:=λx hx=>by
  obtain⟨y,hy,rfl⟩:=ayg.1 hx;exact(h.1 y hy).2.2.1.1
 refine pj h.2 (by rw[ayd]) ((oE (B6 (w:=w)).cells _ p.2 λi hi=>?_).trans (by rw[ayd]));show aj .u8 32 _++([ayD .u32 _]++(aj .u8 32 _++[]))=ax .u8 32 (cb fe.dh (p.2.map oD)) i++(ax .u32 1 (bu fe.n (p.2.map oD)) i++(ax .u8 32 (cb fe.msg (p.2.map oD)) i++[]));have cj:i<(p.2.map oD).length:=by rw[ayd];exact hi
 rw[ph _ 32 _ h1 i cj,rJ _ _ _ i cj,ph _ 32 _ h2 i cj,List.getElem_map]
set_option maxHeartbeats 2000000 in
theorem MC{p:V1×List Db}(h:(Mw (w:=w)).ok p): ∃D:Nat->Int,Hy w (ez false p.1.v (p.2.map gl) D)/\∀(i:Nat) (hi:i<p.2.length),Hy w (nI false (bg (D i)) ((Dd p.2[i]).2.map oD)):=by
 have key: ∀i,∃c:Int,∀hi:i<p.2.length,(Dd p.2[i]).1.v=bg c:=by
  intro i;by_cases hi:i<p.2.length
  .obtain⟨c,hc⟩:=MB (Iz (h.1 _ (List.getElem_mem hi)).1.2.2.2.2.2.2.2.2.2.2.2.1);exact⟨c,λ_=>hc⟩
  .exact⟨0,λh=>absurd h hi⟩
 obtain⟨D,hD⟩:=Classical.axiomOfChoice key;have mem: ∀(g:bX->List Nat) (n:Nat),(∀y∈p.2,(g (gl y)).length=n)->∀x∈p.2.map gl,(g x).length=n:=λg n hg x hx=>by
  obtain⟨y,hy,rfl⟩:=ayg.1 hx;exact hg y hy
 refine⟨D,pj h.2 (by rw[ayd]) ((oE (Dc (w:=w)).cells _ p.2 λi hi=>?_).trans (by rw[ayd])),λi hi=>?_⟩
 .have cj:i<(p.2.map gl).length:=by rw[ayd];exact hi
  show((aj .u8 32 _++(aj .u8 32 _++(aj .u8 32 _++(aj .u8 32 _++([Value.bool _]++([Value.bool _]++([Value.bool _]++([Value.bool _]++((aj .u8 32 _++([ayD .u32 _]++[]))++((aj .u8 32 _++([ayD .u32 _]++[]))++([ayD .u32 _]++([(Dd p.2[i]).1.v]++[]))))))))))))++((aj .u8 32 _++(aj .u8 32 _++([Value.bool _]++([ayD .u32 _]++[]))))++([Value.bool _]++([Value.bool _]++[]))))=
   ax .u8 32 (cb (·.s.root) (p.2.map gl)) i++(ax .u8 32 (cb (·.s.bind) (p.2.map gl)) i++(ax .u8 32 (cb (·.s.own) (p.2.map gl)) i++(ax .u8 32 (cb (·.s.cJ) (p.2.map gl)) i++(cR 1 (dK (·.s.gi) (p.2.map gl)) i++(cR 1 (dK (·.s.gj) (p.2.map gl)) i++(cR 1 (dK (·.s.gk) (p.2.map gl)) i++(cR 1 (dK (·.s.cS) (p.2.map gl)) i++(ax .u8 32 (cb (·.s.send.key) (p.2.map gl)) i++(ax .u32 1 (bu (·.s.send.n) (p.2.map gl)) i++(ax .u8 32 (cb (·.s.recv.key) (p.2.map gl)) i++(ax .u32 1 (bu (·.s.recv.n) (p.2.map gl)) i++(ax .u32 1 (bu (·.s.prev) (p.2.map gl)) i++(cV 1 (λj=>bg (D j)) i++(ax .u8 32 (cb (·.ident) (p.2.map gl)) i++(ax .u8 32 (cb (·.qG) (p.2.map gl)) i++(cR 1 (dK (·.cZ) (p.2.map gl)) i++(ax .u32 1 (bu (·.dH) (p.2.map gl)) i++(cR 1 (dK (·.own) (p.2.map gl)) i++(cR 1 (dK (·.current) (p.2.map gl)) i++[])))))))))))))))))))
  rw[ph _ 32 _ (mem (·.s.root) 32 λy hy=>(h.1 y hy).1.1.1) i cj,ph _ 32 _ (mem (·.s.bind) 32 λy hy=>(h.1 y hy).1.2.1.1) i cj,ph _ 32 _ (mem (·.s.own) 32 λy hy=>(h.1 y hy).1.2.2.1.1) i cj,ph _ 32 _ (mem (·.s.cJ) 32 λy hy=>(h.1 y hy).1.2.2.2.1.1) i cj,
   wV _ _ i cj,wV _ _ i cj,wV _ _ i cj,wV _ _ i cj,ph _ 32 _ (mem (·.s.send.key) 32 λy hy=>(h.1 y hy).1.2.2.2.2.2.2.2.2.1.1.1) i cj,rJ _ _ _ i cj,ph _ 32 _ (mem (·.s.recv.key) 32 λy hy=>(h.1 y hy).1.2.2.2.2.2.2.2.2.2.1.1.1) i cj,rJ _ _ _ i cj,rJ _ _ _ i cj,ZB,
   ph _ 32 _ (mem (·.ident) 32 λy hy=>(h.1 y hy).2.1.1.1) i cj,ph _ 32 _ (mem (·.qG) 32 λy hy=>(h.1 y hy).2.1.2.1.1) i cj,wV _ _ i cj,rJ _ _ _ i cj,wV _ _ i cj,wV _ _ i cj,List.getElem_map,hD i hi]
  simp only[ayl,List.cons_append,List.nil_append,List.append_nil]
 .have:=Iz (h.1 _ (List.getElem_mem hi)).1.2.2.2.2.2.2.2.2.2.2.2.1;rw[hD i hi]at this;exact this
theorem Ug{p:V1×List ui}(h:(Fp (w:=w)).ok p): ∃C:Nat->Int,Hy w (sL false p.1.v (p.2.map kf) C)/\lK (nZ w.heap.size w) (p.2.map kf) C:=by
 have key: ∀i,∃c:Int,∀hi:i<p.2.length,p.2[i].2.1.1.v=bg c:=by
  intro i;by_cases hi:i<p.2.length
  .obtain⟨D,h1,_⟩:=MC (h.1 _ (List.getElem_mem hi)).2.1;obtain⟨c,hc⟩:=MB h1;exact⟨c,λ_=>hc⟩
  .exact⟨0,λh=>absurd h hi⟩
 obtain⟨C,hC⟩:=Classical.axiomOfChoice key;refine⟨C,pj h.2 (by rw[ayd]) ((oE (uj (w:=w)).cells _ p.2 λi hi=>?_).trans (by rw[ayd])),λi hi=>?_⟩
 .have cj:i<(p.2.map kf).length:=by rw[ayd];exact hi
  show([ayD .u8 _]++([ayD .u8 _]++[]))++([p.2[i].2.1.1.v]++[])=ax .u8 1 (bu (·.dev.a) (p.2.map kf)) i++(ax .u8 1 (bu (·.dev.d) (p.2.map kf)) i++(cV 1 (λj=>bg (C j)) i++[]));rw[rJ _ _ _ i cj,rJ _ _ _ i cj,ZB,List.getElem_map,hC i hi];rfl
 .have cj:i<p.2.length:=by rw[ayd]at hi;exact hi
  obtain⟨D,h1,h2⟩:=MC (h.1 _ (List.getElem_mem cj)).2.1;rw[List.getElem_map];refine⟨D,ry (by rw[<-hC i cj];exact h1) rfl,λj hj=>?_⟩;have eF:j<p.2[i].2.1.2.length:=by rw[ayd]at hj;exact hj
  rw[List.getElem_map];exact ry (h2 j eF) rfl
open Go Go.RX Go.Proofs Go.Vs
abbrev acY(p:Mx):Keys:=⟨zh p.1,p.2.1,p.2.2.1,p.2.2.2.1.2.map B_⟩
abbrev ahW(p:XV):Tab:=⟨acY p.1,p.2.1.toNat,p.2.2.1.2.map kf⟩
abbrev acZ(p:Mz):Vs.Call:=⟨zh p.1,p.2.1,p.2.2.1.2,p.2.2.2.1,p.2.2.2.2.1,p.2.2.2.2.2.1,p.2.2.2.2.2.2.1,zh p.2.2.2.2.2.2.2.1,p.2.2.2.2.2.2.2.2.1,p.2.2.2.2.2.2.2.2.2.1,p.2.2.2.2.2.2.2.2.2.2.1,p.2.2.2.2.2.2.2.2.2.2.2.1.2,(p.2.2.2.2.2.2.2.2.2.2.2.2.1+1).toNat,p.2.2.2.2.2.2.2.2.2.2.2.2.2.1.2.map zh,p.2.2.2.2.2.2.2.2.2.2.2.2.2.2.1,p.2.2.2.2.2.2.2.2.2.2.2.2.2.2.2.1,p.2.2.2.2.2.2.2.2.2.2.2.2.2.2.2.2.1,p.2.2.2.2.2.2.2.2.2.2.2.2.2.2.2.2.2.1,p.2.2.2.2.2.2.2.2.2.2.2.2.2.2.2.2.2.2.1,p.2.2.2.2.2.2.2.2.2.2.2.2.2.2.2.2.2.2.2.1⟩
abbrev toState(p:iQ):Vs.State:=⟨p.1,p.2.1,ahW p.2.2.1,acZ p.2.2.2.1,p.2.2.2.2.1.2,p.2.2.2.2.2.1.2.map sW⟩
abbrev Fu(p:iQ):Int:=p.2.2.1.2.1
abbrev D_(p:iQ):Int:=p.2.2.2.1.2.2.2.2.2.2.2.2.2.2.2.2.1
abbrev MD(p:iQ):V1:=p.2.2.1.1.2.2.2.1.1
abbrev Fv(p:iQ):V1:=p.2.2.1.2.2.1.1
abbrev ME(p:iQ):V1:=p.2.2.2.1.2.2.1.1
abbrev Cc(p:iQ):V1:=p.2.2.2.1.2.2.2.2.2.2.2.2.2.2.2.1.1
abbrev Fw(p:iQ):V1:=p.2.2.2.1.2.2.2.2.2.2.2.2.2.2.2.2.2.1.1
abbrev Uh(p:iQ):V1:=p.2.2.2.2.1.1
abbrev Fx(p:iQ):V1:=p.2.2.2.2.2.1.1
variable {w:World}
set_option maxRecDepth 100000 in
set_option maxHeartbeats 2000000 in
theorem IA(p:iQ):(ke (w:=w)).cells p=kI (toState p) (Fu p) (D_ p) (MD p).v (Fv p).v (ME p).v (Cc p).v (Fw p).v (Uh p).v (Fx p).v:=by
 show aj .u8 32 (aJ p.1)++([ayD .u64 _]++(((([ayD .u8 _]++([ayD .u8 _]++[]))++(aj .u8 32 _++(aj .u8 32 _++([(MD p).v]++[]))))++([ayD .i64 _]++([(Fv p).v]++[])))++
  ((([ayD .u8 _]++([ayD .u8 _]++[]))++(aj .u8 8 _++([(ME p).v]++([ayD .u8 _]++(aj .u8 16 _++([Value.bool _]++([ayD .u8 _]++(([ayD .u8 _]++([ayD .u8 _]++[]))++(aj .u8 32 _++(aj .u8 32 _++(aj .u8 32 _++([(Cc p).v]++([ayD .i64 _]++([(Fw p).v]++([ayD .u64 _]++([ayD .u64 _]++([ayD .u64 _]++([ayD .u64 _]++([ayD .u64 _]++([ayD .u32 _]++[]))))))))))))))))))))++
  ([(Uh p).v]++([(Fx p).v]++[])))))=_
 simp only[kI,List.append_eq,ayl,List.cons_append,List.nil_append,jv]
def B8(l:List Nat):Prop:= ∀x∈l,x<256
theorem B8.app{a b:List Nat}(h:B8 a)(k:B8 b):B8 (a++b):=λx hx=>by
 rcases ax_.1 hx with hx | hx
 .exact h x hx
 .exact k x hx
theorem B8.be(k n:Nat):B8 (Vs.be k n):=Y_ k n
theorem B8.flag(b:Bool):B8 [if b then 1 else 0]:=λx hx=>by
 rw[ax2.1 hx];cases b<;>decide
theorem B8.flat{α:Type}{f:α->List Nat}{l:List α}(h: ∀a∈l,B8 (f a)):B8 (l.flatMap f):=λx hx=>by
 obtain⟨a,ha,hx⟩:=List.mem_flatMap.1 hx;exact h a ha x hx
theorem lz{α:Type}(f:α->List Nat)(g:α->Nat): ∀l:List α,(∀a∈l,(f a).length<=g a)->(l.flatMap f).length<=(l.map g).sum
 | [],_=>by simp
 | a::l,h=>by
  have h1:=h a (by simp);have h2:=lz f g l λx hx=>h x (by simp[hx])
  rw[ayn,axP,ayr,List.sum_cons];omega
theorem Fy{α:Type}(f g:α->Nat): ∀l:List α,(∀a∈l,f a<=g a)->(l.map f).sum<=(l.map g).sum
 | [],_=>by simp
 | a::l,h=>by
  have h1:=h a (by simp);have h2:=Fy f g l λx hx=>h x (by simp[hx])
  rw[ayr,List.sum_cons,ayr,List.sum_cons];omega
theorem MF{α:Type}(c:Nat)(l:List α):(l.map λ_=>c).sum=c*l.length:=by
 induction l with
 | nil=>simp
 | cons a l ih=>
  rw[ayr,List.sum_cons,ih,ax5,Nat.mul_succ];omega
theorem MG{α:Type}(c:Nat)(f:α->Nat)(l:List α):(l.map λa=>c*f a).sum=c*(l.map f).sum:=by
 induction l with
 | nil=>simp
 | cons a l ih=>rw[ayr,List.sum_cons,ih,ayr,List.sum_cons,Nat.mul_add]
theorem sum_add{α:Type}(f g:α->Nat)(l:List α):(l.map λa=>f a+g a).sum=(l.map f).sum+(l.map g).sum:=by
 induction l with
 | nil=>simp
 | cons a l ih=>
  rw[ayr,List.sum_cons,ih,ayr,List.sum_cons,ayr,List.sum_cons];omega
theorem nM{α:Type}(f:α->Nat)(c:Nat)(l:List α)(h: ∀a∈l,c<=f a):c*l.length<=(l.map f).sum:=by
 rw[<-MF];exact Fy _ _ l h
theorem MH{α β:Type}(f:β->Nat)(g:α->β)(l:List α):((l.map g).map f).sum=(l.map λa=>f (g a)).sum:=by
 rw[List.map_map];rfl
theorem XZ{e:bX}(h:mO e):(bS.enc e).length<=400+68*e.s.aC.length:=by
 have h1:=lz dv.enc (λ_=>68) e.s.aC λx hx=>by
  rw[wA,axP,axP,aw,h.dh x hx,h.msg x hx];exact Nat.le_refl _
 rw[MF]at h1;rw[Ag];simp only[axP,aw,axR,h.root,h.bind,h.own,h.cJ,h.sk,h.rk,h.ident,h.qG];omega
theorem Ui{p:eu}(h:kb p):(bI.enc p).length<=6+wS p.l:=by
 have h1:=lz bS.enc (λe=>400+68*e.s.aC.length) p.l λe he=>XZ (h.qx e he)
 rw[wH];simp only[axP,aw];have:wS p.l=(p.l.map λe=>400+68*e.s.aC.length).sum:=rfl;omega
structure ahX (s:Vs.State):Prop where
 ok: ∀m a,m<256^4->a<256^1->s.table.most=m->s.call.fu=a->aX.ok s
 a:sQ s
 b:B8 (aX.enc s)
 l1:s.lW.length=32
 l2:s.table.keys.ident.length=32
 l3:s.table.keys.signed.length=32
 l4: ∀x∈s.table.keys.once,x.cT.length=32
 l5:s.call.bE.length=8
 l6: ∀x∈s.call.dead,x.length=16
 l7:s.call.id.length=16
 l8:s.call.own.length=32
 l9:s.call.cH.length=32
 l10:s.call.fi.length=32
theorem X0{s:Vs.State}(h:ahX s):(aX.enc s).length<=2*ni s+6*s.table.aD.length+700:=by
 have h1:=lz bI.enc (λp=>6+wS p.l) s.table.aD λp hp=>Ui (h.a.peer p hp)
 rw[sum_add,MF]at h1;have h2:=lz dE.enc (λ_=>36) s.table.keys.once λx hx=>by
  show(Vs.be 4 x.id++x.cT).length<=36;rw[axP,aw,h.l4 x hx];exact Nat.le_refl _
 have h3:=lz (raw 16).enc (λ_=>16) s.call.dead λx hx=>by
  show x.length<=16;rw[h.l6 x hx];exact Nat.le_refl _
 have h4:=lz gq.enc (λ_=>2) s.call.early λx _=>by
  show(Vs.be 1 x.a++Vs.be 1 x.d).length<=2;rw[axP,aw,aw];exact Nat.le_refl _
 have h5:=lz dJ.enc (λ_=>26) s.aF λx hx=>by
  show(x.id++(Vs.be 1 x.aM++([if x.out then 1 else 0]++Vs.be 8 x.since))).length<=26;rw[axP,axP,axP,aw,aw,h.a.HL x hx];exact Nat.le_refl _
 rw[MF]at h2 h3 h4 h5;have hp:KM s.table.aD=(s.table.aD.map λp=>wS p.l).sum:=rfl;rw[qy];simp only[axP,aw,axR,h.l1,h.l2,h.l3,h.l5,h.l7,h.l8,h.l9,h.l10];unfold ni;omega
theorem IB(p:V1×List B5):(Fo (w:=w)).bz p=(p.2.map (B6 (w:=w)).bz).sum+1:=rfl
theorem IC(p:B7):(B9 (w:=w)).bz p=(oK (w:=w)).bz p.1+((Ub (w:=w)).bz p.2.1+0)+1:=rfl
theorem KP(p:Mv):(Uc (w:=w)).bz p=(oK (w:=w)).bz p.1+((oK (w:=w)).bz p.2.1+((oK (w:=w)).bz p.2.2.1+((oK (w:=w)).bz p.2.2.2.1+((oB (w:=w)).bz p.2.2.2.2.1+((oB (w:=w)).bz p.2.2.2.2.2.1+((oB (w:=w)).bz p.2.2.2.2.2.2.1+((oB (w:=w)).bz p.2.2.2.2.2.2.2.1+((B9 (w:=w)).bz p.2.2.2.2.2.2.2.2.1+((B9 (w:=w)).bz p.2.2.2.2.2.2.2.2.2.1+((Ub (w:=w)).bz p.2.2.2.2.2.2.2.2.2.2.1+((Fo (w:=w)).bz p.2.2.2.2.2.2.2.2.2.2.2.1+0)))))))))))+1:=rfl
theorem Pq(p:acT):(acU (w:=w)).bz p=(oK (w:=w)).bz p.1+((oK (w:=w)).bz p.2.1+((oB (w:=w)).bz p.2.2.1+((Ub (w:=w)).bz p.2.2.2.1+0)))+1:=rfl
theorem Pr(p:Db):(Dc (w:=w)).bz p=(Uc (w:=w)).bz p.1+((acU (w:=w)).bz p.2.1+((oB (w:=w)).bz p.2.2.1+((oB (w:=w)).bz p.2.2.2.1+0)))+1:=rfl
theorem KQ(p:V1×List Db):(Mw (w:=w)).bz p=(p.2.map (Dc (w:=w)).bz).sum+1:=rfl
theorem KR(p:ui):(uj (w:=w)).bz p=(wT (w:=w)).bz p.1+((Mw (w:=w)).bz p.2.1+0)+1:=rfl
theorem ID(p:V1×List ui):(Fp (w:=w)).bz p=(p.2.map (uj (w:=w)).bz).sum+1:=rfl
theorem IE(p:V1×List D7):(Fq (w:=w)).bz p=(p.2.map (Ix (w:=w)).bz).sum+1:=rfl
theorem KS(p:Mx):(Ud (w:=w)).bz p=(wT (w:=w)).bz p.1+((oK (w:=w)).bz p.2.1+((oK (w:=w)).bz p.2.2.1+((Fq (w:=w)).bz p.2.2.2.1+0)))+1:=rfl
theorem Ps(p:XV):(acV (w:=w)).bz p=(Ud (w:=w)).bz p.1+((oi (w:=w)).bz p.2.1+((Fp (w:=w)).bz p.2.2.1+0))+1:=rfl
theorem Pt(p:V1×List (List Nat)):(XW (w:=w)).bz p=(p.2.map (oI (w:=w)).bz).sum+1:=rfl
theorem KT(p:V1×List B4):(My (w:=w)).bz p=(p.2.map (wT (w:=w)).bz).sum+1:=rfl
theorem Uj(p:V1×List Nat):(oBy (w:=w)).bz p=(p.2.map (o8 (w:=w)).bz).sum+1:=rfl
theorem IF(p:V1×List D8):(Ft (w:=w)).bz p=(p.2.map (Iy (w:=w)).bz).sum+1:=rfl
theorem KU(p:Mz):(Ue (w:=w)).bz p=(wT (w:=w)).bz p.1+((o8s (w:=w)).bz p.2.1+((XW (w:=w)).bz p.2.2.1+((o8 (w:=w)).bz p.2.2.2.1+((oI (w:=w)).bz p.2.2.2.2.1+((oB (w:=w)).bz p.2.2.2.2.2.1+((o8 (w:=w)).bz p.2.2.2.2.2.2.1+((wT (w:=w)).bz p.2.2.2.2.2.2.2.1+((oK (w:=w)).bz p.2.2.2.2.2.2.2.2.1+((oK (w:=w)).bz p.2.2.2.2.2.2.2.2.2.1+((oK (w:=w)).bz p.2.2.2.2.2.2.2.2.2.2.1+((oBy (w:=w)).bz p.2.2.2.2.2.2.2.2.2.2.2.1+((oi (w:=w)).bz p.2.2.2.2.2.2.2.2.2.2.2.2.1+((My (w:=w)).bz p.2.2.2.2.2.2.2.2.2.2.2.2.2.1+((Mu (w:=w)).bz p.2.2.2.2.2.2.2.2.2.2.2.2.2.2.1+((Mu (w:=w)).bz p.2.2.2.2.2.2.2.2.2.2.2.2.2.2.2.1+((Mu (w:=w)).bz p.2.2.2.2.2.2.2.2.2.2.2.2.2.2.2.2.1+((Mu (w:=w)).bz p.2.2.2.2.2.2.2.2.2.2.2.2.2.2.2.2.2.1+((Mu (w:=w)).bz p.2.2.2.2.2.2.2.2.2.2.2.2.2.2.2.2.2.2.1+((Ub (w:=w)).bz p.2.2.2.2.2.2.2.2.2.2.2.2.2.2.2.2.2.2.2.1+0)))))))))))))))))))+1:=rfl
theorem IG(p:iQ):(ke (w:=w)).bz p=(oK (w:=w)).bz p.1+((Mu (w:=w)).bz p.2.1+((acV (w:=w)).bz p.2.2.1+((Ue (w:=w)).bz p.2.2.2.1+((oBy (w:=w)).bz p.2.2.2.2.1+((Ft (w:=w)).bz p.2.2.2.2.2.1+0)))))+1:=rfl
theorem MI(l:List Nat):(oK (w:=w)).bz l=33:=rfl
theorem X1(l:List Nat):(oI (w:=w)).bz l=17:=rfl
theorem Uk(l:List Nat):(o8s (w:=w)).bz l=9:=rfl
theorem X2(n:Nat):(o8 (w:=w)).bz n=1:=rfl
theorem II(n:Nat):(Ub (w:=w)).bz n=1:=rfl
theorem Ul(n:Nat):(Mu (w:=w)).bz n=1:=rfl
theorem X3(n:Int):(oi (w:=w)).bz n=1:=rfl
theorem MJ(b:Bool):(oB (w:=w)).bz b=1:=rfl
theorem Ea(p:B4):(wT (w:=w)).bz p=3:=rfl
theorem Cd(p:Db):1+(Dd p).2.length<=(Dc (w:=w)).bz p:=by
 have h:(Dd p).2.length<=((Dd p).2.map (B6 (w:=w)).bz).sum:=by
  have:=nM (B6 (w:=w)).bz 1 (Dd p).2 λa _=>Nat.le_add_left _ _
  omega
 simp only[Pr,KP,Pq,IC,IB,MI,MJ,II];have e:(p.1.2.2.2.2.2.2.2.2.2.2.2.1.2.map (B6 (w:=w)).bz).sum=((Dd p).2.map (B6 (w:=w)).bz).sum:=rfl;omega
theorem yj(p:ui):5+(p.2.1.2.map (Dc (w:=w)).bz).sum<=(uj (w:=w)).bz p:=by
 simp only[KR,KQ,Ea];omega
theorem Um(l:List ui):KM (l.map kf)<=400*(l.map (uj (w:=w)).bz).sum:=by
 unfold KM;rw[MH,<-MG];refine Fy _ _ l λp _=>?_
 have h1:wS (kf p).l<=400*(p.2.1.2.map (Dc (w:=w)).bz).sum:=by
  show wS (p.2.1.2.map gl)<=_;unfold wS;rw[MH,<-MG];refine Fy _ _ _ λe _=>?_
  have:=Cd (w:=w) e;show 400+68*((Dd e).2.map oD).length<=_;rw[ayd];omega
 have h2:=yj (w:=w) p;omega
structure Few (s:Vs.State):Prop where
 n:ni s<=419430400
 p:s.table.aD.length<=209715
 all:s.table.keys.once.length<=1048576/\s.call.dead.length<=1048576/\s.call.marks.length<=1048576/\s.call.early.length<=1048576/\s.log.length<=1048576/\s.aF.length<=1048576
 SF: ∀q∈s.table.aD,q.l.length<=1048576/\∀e∈q.l,e.s.aC.length<=1048576
theorem Fz{α:Type}(f:α->Nat): ∀(l:List α),∀a∈l,f a<=(l.map f).sum
 | b::l,a,h=>by
  rw[ayr,List.sum_cons];rcases List.mem_cons.1 h with rfl | h
  .omega
  .have:=Fz f l a h;omega
set_option maxRecDepth 100000 in
theorem Pu(p:iQ)(hb:(ke (w:=w)).bz p<=1048576):Few (toState p):=by
 obtain⟨so,Z2⟩: ∃n,n=(p.2.2.1.1.2.2.2.1.2.map (Ix (w:=w)).bz).sum:=⟨_,rfl⟩;obtain⟨sp,OV⟩: ∃n,n=(p.2.2.1.2.2.1.2.map (uj (w:=w)).bz).sum:=⟨_,rfl⟩;obtain⟨sd,O4⟩: ∃n,n=(p.2.2.2.1.2.2.1.2.map (oI (w:=w)).bz).sum:=⟨_,rfl⟩;obtain⟨sm,uP⟩: ∃n,n=(p.2.2.2.1.2.2.2.2.2.2.2.2.2.2.2.1.2.map (o8 (w:=w)).bz).sum:=⟨_,rfl⟩;obtain⟨se,VY⟩: ∃n,n=(p.2.2.2.1.2.2.2.2.2.2.2.2.2.2.2.2.2.1.2.map (wT (w:=w)).bz).sum:=⟨_,rfl⟩;obtain⟨sl,hsl⟩: ∃n,n=(p.2.2.2.2.1.2.map (o8 (w:=w)).bz).sum:=⟨_,rfl⟩;obtain⟨sr,hsr⟩: ∃n,n=(p.2.2.2.2.2.1.2.map (Iy (w:=w)).bz).sum:=⟨_,rfl⟩;simp only[IG,Ps,KS,KU,IE,ID,Pt,KT,Uj,IF,MI,MJ,II,Ul,X2,Uk,X1,X3,Ea,<-Z2,<-OV,<-O4,<-uP,<-VY,<-hsl,<-hsr]at hb;have h1:=nM (Ix (w:=w)).bz 35 p.2.2.1.1.2.2.2.1.2 λa _=>Nat.le_refl _
 have h2:=nM (uj (w:=w)).bz 5 p.2.2.1.2.2.1.2 λa _=>by have:=yj (w:=w) a;omega
 have h3:=nM (oI (w:=w)).bz 17 p.2.2.2.1.2.2.1.2 λa _=>Nat.le_refl _
 have h4:=nM (o8 (w:=w)).bz 1 p.2.2.2.1.2.2.2.2.2.2.2.2.2.2.2.1.2 λa _=>Nat.le_refl _
 have h5:=nM (wT (w:=w)).bz 3 p.2.2.2.1.2.2.2.2.2.2.2.2.2.2.2.2.2.1.2 λa _=>Nat.le_refl _
 have h6:=nM (o8 (w:=w)).bz 1 p.2.2.2.2.1.2 λa _=>Nat.le_refl _
 have h7:=nM (Iy (w:=w)).bz 21 p.2.2.2.2.2.1.2 λa _=>Nat.le_refl _
 have h8:=Um (w:=w) p.2.2.1.2.2.1.2;rw[<-Z2]at h1;rw[<-OV]at h2 h8;rw[<-O4]at h3;rw[<-uP]at h4;rw[<-VY]at h5;rw[<-hsl]at h6;rw[<-hsr]at h7;have g1:(toState p).table.keys.once.length=p.2.2.1.1.2.2.2.1.2.length:=ayd ..;have g2:(toState p).table.aD.length=p.2.2.1.2.2.1.2.length:=ayd ..;have g5:(toState p).call.early.length=p.2.2.2.1.2.2.2.2.2.2.2.2.2.2.2.2.2.1.2.length:=ayd ..;have g7:(toState p).aF.length=p.2.2.2.2.2.1.2.length:=ayd ..;have g3:(toState p).call.dead.length=p.2.2.2.1.2.2.1.2.length:=rfl;have g4:(toState p).call.marks.length=p.2.2.2.1.2.2.2.2.2.2.2.2.2.2.2.1.2.length:=rfl;have g6:(toState p).log.length=p.2.2.2.2.1.2.length:=rfl;have g8:KM (toState p).table.aD=KM (p.2.2.1.2.2.1.2.map kf):=rfl;refine⟨?_,by omega,⟨by omega,by omega,by omega,by omega,by omega,by omega⟩,λq hq=>?_⟩
 .unfold ni;rw[g1,g3,g4,g5,g6,g7,g8];omega
 .obtain⟨y,hy,rfl⟩:=ayg.1 hq;have k1:=Fz (uj (w:=w)).bz _ y hy;rw[<-OV]at k1;have k2:=yj (w:=w) y;have k3:=nM (Dc (w:=w)).bz 1 y.2.1.2 λa _=>by have:=Cd (w:=w) a;omega
  refine⟨by rw[ayd];omega,λe he=>?_⟩;obtain⟨z,hz,rfl⟩:=ayg.1 he;have k4:=Fz (Dc (w:=w)).bz _ z hz;have k5:=Cd (w:=w) z;show((Dd z).2.map oD).length<=_;rw[ayd];omega
open Go Go.RX Go.Proofs Go.Vs
variable {w:World}
theorem Un{p:Db}(h:(Dc (w:=w)).ok p)(hs:(gl p).s.aC.length<=1048576):mO (gl p)/\bS.ok (gl p)/\B8 (bS.enc (gl p)):=by
 obtain⟨⟨k1,k2,k3,k4,_,_,_,_,⟨k5,n5,_⟩,⟨k6,n6,_⟩,n7,⟨k7,_⟩,_⟩,⟨k8,k9,_,n9,_⟩,_,_,_⟩:=h;have hd: ∀x∈(gl p).s.aC,x.dh.length=32/\x.n<256^4/\x.msg.length=32/\B8 x.dh/\B8 x.msg:=λx hx=>by
  obtain⟨y,hy,rfl⟩:=ayg.1 hx;obtain⟨q1,q2,q3,_⟩:=k7 y hy;exact⟨q1.1,q2,q3.1,q1.2,q3.2⟩
 have hn:(gl p).s.aC.length<256^4:=Nat.lt_of_le_of_lt hs (by decide);refine⟨⟨k1.1,k2.1,k3.1,k4.1,k5.1,n5,k6.1,n6,n7,hn,λx hx=>(hd x hx).1,λx hx=>(hd x hx).2.1,λx hx=>(hd x hx).2.2.1,k8.1,k9.1,n9⟩,⟨⟨k1.1,k2.1,k3.1,k4.1,trivial,trivial,trivial,trivial,⟨k5.1,n5⟩,⟨k6.1,n6⟩,n7,hn,λx hx=>⟨(hd x hx).1,(hd x hx).2.1,(hd x hx).2.2.1⟩⟩,k8.1,k9.1,trivial,n9,trivial,trivial⟩,?_⟩;rw[Ag];exact B8.app (B8.app k1.2 (B8.app k2.2 (B8.app k3.2 (B8.app k4.2 (B8.app (B8.flag _) (B8.app (B8.flag _) (B8.app (B8.flag _) (B8.app (B8.flag _) (B8.app (B8.app k5.2 (B8.be _ _)) (B8.app (B8.app k6.2 (B8.be _ _)) (B8.app (B8.be _ _) (B8.app (B8.be _ _) (B8.flat λx hx=>by
  rw[wA];exact B8.app (hd x hx).2.2.2.1 (B8.app (B8.be _ _) (hd x hx).2.2.2.2)))))))))))))) (B8.app k8.2 (B8.app k9.2 (B8.app (B8.flag _) (B8.app (B8.be _ _) (B8.app (B8.flag _) (B8.flag _))))))
theorem Pv{p:ui}(h:(uj (w:=w)).ok p)(hs:(kf p).l.length<=1048576/\∀e∈(kf p).l,e.s.aC.length<=1048576):kb (kf p)/\bI.ok (kf p)/\B8 (bI.enc (kf p)):=by
 obtain⟨⟨a,d,_⟩,⟨hl,_⟩,_⟩:=h;have he: ∀e∈(kf p).l,mO e/\bS.ok e/\B8 (bS.enc e):=λe hx=>by
  obtain⟨y,hy,rfl⟩:=ayg.1 hx;exact Un (hl y hy) (hs.2 _ hx)
 have hn:(kf p).l.length<256^4:=Nat.lt_of_le_of_lt hs.1 (by decide);refine⟨⟨a,d,hn,λe hx=>(he e hx).1⟩,⟨⟨a,d⟩,hn,λe hx=>(he e hx).2.1⟩,?_⟩;rw[wH];exact B8.app (B8.app (B8.be _ _) (B8.be _ _)) (B8.app (B8.be _ _) (B8.flat λe hx=>(he e hx).2.2))
set_option maxRecDepth 100000 in
theorem KV{p:iQ}(h:(ke (w:=w)).ok p)(f:Few (toState p)):ahX (toState p):=by
 obtain⟨s1,s2,⟨⟨⟨a1,a2,_⟩,a3,a4,⟨a5,_⟩,_⟩,_,⟨a6,_⟩,_⟩,⟨⟨c1,c2,_⟩,c3,⟨c4,_⟩,c5,c6,_,c7,⟨c8,c9,_⟩,c10,Ht,Hu,⟨c13,_⟩,_,⟨c14,_⟩,c15,c16,c17,c18,c19,c20,_⟩,⟨l1,_⟩,⟨r1,_⟩,_⟩:=h;have big: ∀{n:Nat},n<=1048576->n<256^4:=λh=>Nat.lt_of_le_of_lt h (by decide)
 have ho: ∀x∈(toState p).table.keys.once,x.id<256^4/\x.cT.length=32/\B8 x.cT:=λx hx=>by
  obtain⟨y,hy,rfl⟩:=ayg.1 hx;obtain⟨q1,q2,_⟩:=a5 y hy;exact⟨q1,q2.1,q2.2⟩
 have hp: ∀x∈(toState p).table.aD,kb x/\bI.ok x/\B8 (bI.enc x):=λx hx=>by
  obtain⟨y,hy,rfl⟩:=ayg.1 hx;exact Pv (a6 y hy) (f.SF _ hx)
 have he: ∀x∈(toState p).call.early,x.a<256^1/\x.d<256^1:=λx hx=>by
  obtain⟨y,hy,rfl⟩:=ayg.1 hx;obtain⟨q1,q2,_⟩:=c14 y hy;exact⟨q1,q2⟩
 have hr: ∀x∈(toState p).aF,x.id.length=16/\B8 x.id/\x.aM<256^1/\x.since<256^8:=λx hx=>by
  obtain⟨y,hy,rfl⟩:=ayg.1 hx;obtain⟨q1,q2,_,q3,_⟩:=r1 y hy;exact⟨q1.1,q1.2,q2,q3⟩
 obtain⟨b1,b2,b3,b4,b5,b6⟩:=f.all;refine⟨λm a hm ha e1 e2=>⟨s1.1,s2,⟨⟨⟨a1,a2⟩,a3.1,a4.1,big b1,λx hx=>⟨(ho x hx).1,(ho x hx).2.1⟩⟩,by rw[<-e1]at hm;exact hm,big (Nat.le_trans f.p (by decide)),λx hx=>(hp x hx).2.1⟩,
  ⟨⟨c1,c2⟩,c3.1,⟨big b2,λx hx=>(c4 x hx).1⟩,c5,c6.1,trivial,c7,⟨c8,c9⟩,c10.1,Ht.1,Hu.1,big b3,by rw[<-e2]at ha;exact ha,⟨big b4,λx hx=>he x hx⟩,c15,c16,c17,c18,c19,c20⟩,big b5,⟨big b6,λx hx=>⟨(hr x hx).1,(hr x hx).2.2.1,trivial,(hr x hx).2.2.2⟩⟩⟩,
  ⟨big b1,big (Nat.le_trans f.p (by decide)),λx hx=>(hp x hx).1,big b2,big b3,big b4,⟨λx hx=>l1 x hx,Nat.le_trans b5 (by decide)⟩,big b6,λx hx=>(hr x hx).1⟩,?_,s1.1,a3.1,a4.1,λx hx=>(ho x hx).2.1,c3.1,λx hx=>(c4 x hx).1,c6.1,c10.1,Ht.1,Hu.1⟩
 rw[qy];have be:=B8.be;exact B8.app s1.2 (B8.app (be _ _) (B8.app (B8.app (B8.app (B8.app (be _ _) (be _ _)) (B8.app a3.2 (B8.app a4.2 (B8.app (be _ _) (B8.flat λx hx=>B8.app (be _ _) (ho x hx).2.2))))) (B8.app (be _ _) (B8.app (be _ _) (B8.flat λx hx=>(hp x hx).2.2))))
  (B8.app (B8.app (B8.app (be _ _) (be _ _)) (B8.app c3.2 (B8.app (B8.app (be _ _) (B8.flat λx hx=>(c4 x hx).2)) (B8.app (be _ _) (B8.app c6.2 (B8.app (B8.flag _) (B8.app (be _ _) (B8.app (B8.app (be _ _) (be _ _)) (B8.app c10.2 (B8.app Ht.2 (B8.app Hu.2 (B8.app (B8.app (be _ _) λx hx=>c13 x hx) (B8.app (be _ _) (B8.app (B8.app (be _ _) (B8.flat λx hx=>B8.app (be _ _) (be _ _))) (B8.app (be _ _) (B8.app (be _ _) (B8.app (be _ _) (B8.app (be _ _) (B8.app (be _ _) (be _ _))))))))))))))))))))
  (B8.app (B8.app (be _ _) λx hx=>l1 x hx) (B8.app (be _ _) (B8.flat λx hx=>B8.app (hr x hx).2.1 (B8.app (be _ _) (B8.app (B8.flag _) (be _ _)))))))))
theorem Uo{p:iQ}(h:(ke (w:=w)).ok p)(hb:(ke (w:=w)).bz p<=1048576):ahV (toState p) (Fu p) (D_ p):=by
 have f:=Pu p hb;have g:=KV h f;have hl:=X0 g;have h1:=f.n;have h2:=f.p;refine⟨g.a,λhm=>?_,⟨g.b,by omega⟩,by omega,λhn=>by omega⟩;simp only[lL,ai,decide_eq_true_eq]at hm;obtain⟨⟨⟨⟨m1,m2⟩,m3⟩,m4⟩,_⟩:=hm;have e1:Fu p=((toState p).table.most:Int):=(Int.toNat_of_nonneg m1).symm;have e2:D_ p=((toState p).call.fu:Int) - 1:=by
  have:((toState p).call.fu:Int)=D_ p+1:=Int.toNat_of_nonneg (a:=D_ p+1) (by omega);omega
 refine⟨e1,e2,g.ok _ _ ?_ ?_ rfl rfl⟩
 .have:((toState p).table.most:Int)<=2147483647:=by omega
  rw[show(256^4:Nat)=4294967296 by decide];omega
 .rw [show(256^1:Nat)=256 by decide];omega
theorem Pw{p:iQ}(h:(ke (w:=w)).ok p): ∃C:Nat->Int,(∀x∈ef false (toState p) C (MD p).v (Fv p).v (ME p).v (Cc p).v (Fw p).v (Uh p).v (Fx p).v,x.wr=false/\Hy w x)/\lK (nZ w.heap.size w) (toState p).table.aD C:=by
 obtain⟨_,_,⟨⟨_,_,_,a5,_⟩,_,a6,_⟩,⟨_,_,c4,_,_,_,_,_,_,_,_,c13,_,c14,_⟩,l1,r1,_⟩:=h;obtain⟨C,h1,h2⟩:=Ug a6;refine⟨C,λx hx=>?_,h2⟩;simp only[List.mem_cons,List.not_mem_nil,or_false]at hx;rcases hx with rfl | rfl | rfl | rfl | rfl | rfl | rfl
 .exact⟨rfl,XX a5⟩
 .exact⟨rfl,h1⟩
 .exact⟨rfl,acX c4⟩
 .exact⟨rfl,wW c13⟩
 .exact⟨rfl,XY c14⟩
 .exact⟨rfl,wW l1⟩
 .exact⟨rfl,Uf r1⟩
open Go Go.RX Go.Proofs
abbrev kg(a0:V1)(a1:Int)(a2 a3 a4:Nat->Int):HP:=aA true 84 3 a0.v (ag a1) (aG (ag a1) [ax .u8 1 a2,ax .u64 1 a3,cV 1 (λj=>bg (a4 j))])
abbrev gZ(a0:Nat)(a1:Int):HP:=ak a0 true ([.int .u64 a1])
abbrev KW(a0 a1 a2 a3:Nat->Int)(a4 a5 a6 a7:Bool)(a8:Nat->Int)(a9:Int)(ES:Nat->Int)(C4 JS:Int)(JT:V1):Value:= .agg (axQ (aj .u8 32 a0) (axQ (aj .u8 32 a1) (axQ (aj .u8 32 a2) (axQ (aj .u8 32 a3) (.bool a4::(.bool a5::(.bool a6::(.bool a7::(axQ (aj .u8 32 a8) (.int .u32 a9::(axQ (aj .u8 32 ES) ([.int .u32 C4,.int .u32 JS,JT.v])))))))))))).toArray
open Go Go.RX Go.Proofs
abbrev FA(a0:V1)(a1:Int)(a2 a3 a4:Nat->Int):HP:=aA false 84 3 a0.v (ag a1) (aG (ag a1) [ax .u8 1 a2,ax .u64 1 a3,cV 1 (λj=>bg (a4 j))])
end Go.RX.Vb
