/- The document's side of a store. -/
import Derived.Test.YtllcdnkfbeokhaaGreatM40
open Go.IntKind renaming wrap -> ae
open Go.Proofs.Tryz renaming prog -> ax8
open Int renaming natCast_nonneg -> ax4, toNat -> ag, toNat_natCast -> ax3
open List renaming getD_cons_succ -> ayI, getD_cons_zero -> ah, length_append -> axP, mem_append -> ax_, mem_singleton -> ax2
namespace Go.RX.Vb
open Go Go.RX Go.Proofs Go.Vs Go.RX.Sh
theorem iP(x:Nat):ar .rem .u64 (x:Int) 256=((x%256:Nat):Int):=rfl
theorem kV(x:Nat):ar .quo .u64 (x:Int) 256=((x/256:Nat):Int):=rfl
theorem Pk(v:V1)(l:List Nat)(h: ∀x∈l,x<256)(hl:l.length+300<=140737488355328):ao ax8 33 [v.v,.int .i64 32] [aN false v.v l] λr hs=> ∃o:V1,r=o.v/\hs=[aN true o.v (eH l)]:=by
 refine ao.post (Fn.KG v (λj=>l.getD j 0) (Mm h) l.length hl) ?_;rintro r hs ⟨o,rfl,rfl⟩;refine⟨_,bq.refl _,o,rfl,?_⟩;have e:aG 32 [ax .u8 1 λj=>((yg l.length (λj=>l.getD j 0) j:Nat):Int)]=aG 32 [ax .u8 1 (aJ (eH l))]:=Fg.oC λj hj=>(H_ l hj).symm
 show [aA true 5 1 o.v 32 (aG 32 [ax .u8 1 λj=>((yg l.length (λj=>l.getD j 0) j:Nat):Int)])]=[aA true 5 1 o.v (eH l).length (aG (eH l).length [ax .u8 1 (aJ (eH l))])];rw[e,cK]
theorem T6(v:V1)(l:List Nat)(h: ∀x∈l,x<256)(hl:l.length+300<=140737488355328):ao ax8 33 [v.v,.int .i64 32] [aN true v.v l] λr hs=> ∃o:V1,r=o.v/\hs=[aN true v.v l,aN true o.v (eH l)]:=by
 refine ao.post (ao.C3 (A:=[]) (L:=[aN false v.v l]) (B:=[aN true v.v l]) (Pk v l h hl) ?_ ?_) ?_
 .rintro _ hs ⟨o,_,rfl⟩ x hx;rw[ax2.1 hx];rfl
 .intro x hx;rw[ax2.1 hx];exact aZ.own
 .rintro r hs ⟨zF,⟨o,rfl,rfl⟩,rfl⟩;exact⟨_,bq.perm (List.Perm.swap _ _ _),o,rfl,rfl⟩
theorem Io(v:V1)(l:List Nat)(h: ∀x∈l,x<256)(hn:l.length<256^4):ao ax8 14 [v.v] [aN false v.v l] λr hs=> ∃o:V1,r=o.v/\hs=[aN true o.v (eP l)]:=by
 refine T1 _ (l.length:Int) (aJ l) v ?_;unfold Ig;have hn':l.length<4294967296:=hn;intro b0;refine⟨by omega,λ_=>?_⟩;intro v1 v2;refine⟨by omega,λ_=>?_⟩;intro v3;have hb:cu (au (au (au (au (au (au (λ_=>(0:Int)) 0 72) 1 76) 2 83) 3 84) 4 0) 5 1) eO:=by
  intro j hj
  match j,hj with
  | 0,_=>rfl
  | 1,_=>rfl
  | 2,_=>rfl
  | 3,_=>rfl
  | 4,_=>rfl
  | 5,_=>rfl
  | j+6,hj=>exact absurd hj (by simp[eO])
 rw[jb hn,kV,jb (by omega),kV,jb (by omega),kV,jb (by omega),iP,iP,iP,iP,CQ (Nat.mod_lt _ (by decide)),CQ (Nat.mod_lt _ (by decide)),CQ (Nat.mod_lt _ (by decide)),CQ (Nat.mod_lt _ (by decide))];have h1:cu (bV (au (au (au (au (au (au (λ_=>(0:Int)) 0 72) 1 76) 2 83) 3 84) 4 0) 5 1) 6 4 (au (au (au (au (λ_=>0) 3 ((l.length%256:Nat):Int)) 2 ((l.length/256%256:Nat):Int)) 1 ((l.length/256/256%256:Nat):Int)) 0 ((l.length/256/256/256%256:Nat):Int))) (eO++be 4 l.length):=hb.jA rfl (aw 4 _).symm λj hj=>by
  match j,hj with
  | 0,_=>rfl
  | 1,_=>rfl
  | 2,_=>rfl
  | 3,_=>rfl
  | j+4,hj=>omega
 have h2:cu _ (hJ l):=h1.jA (o:=10) (n:=ag (l.length:Int)) (g:=aJ l) (by simp[eO,aw]) (ax3 _) λ_ _=>rfl
 have e1:ag (10+(l.length:Int))=(hJ l).length:=by rw[dq];omega
 rw[e1,h2.wj];refine⟨_,T6 v3 (hJ l) (BX h) (by rw[dq];omega),?_⟩;rintro x lU ⟨o,rfl,rfl⟩;refine⟨o,aJ (eH (hJ l)),rfl,?_,?_⟩
 .rw [aN,aN,cK];rfl
 refine⟨by omega,λ_=>⟨by omega,λ_=>?_⟩⟩;intro v5;have h3:cu (bV (bV (bV (au (au (au (au (au (au (λ_=>(0:Int)) 0 72) 1 76) 2 83) 3 84) 4 0) 5 1) 6 4 (au (au (au (au (λ_=>0) 3 ((l.length%256:Nat):Int)) 2 ((l.length/256%256:Nat):Int)) 1 ((l.length/256/256%256:Nat):Int)) 0 ((l.length/256/256/256%256:Nat):Int))) 10 (ag (l.length:Int)) (aJ l)) (hJ l).length 8 (aJ (eH (hJ l)))) (eP l):=h2.jA rfl (by rw[List.length_take,cK];rfl) λj hj=>by
  rw[gL (by rw[cK];omega),gL (by rw[List.length_take,cK];omega),List.getElem_take]
 have e2:ag (10+(l.length:Int)+8)=(eP l).length:=by
  rw[eP,axP,dq,List.length_take,cK];omega
 rw[e2,h3.wj];exact⟨v5,rfl,rfl⟩
open Go Go.RX Go.Proofs Go.Vs
theorem B3{s:Vs.State}{C:Nat->Int}{u1 u2 u3 u4 u5 u6 u7:Value}{H:HP}: ∀h∈ef false s C u1 u2 u3 u4 u5 u6 u7++[HP.look H],aZ (ef true s C u1 u2 u3 u4 u5 u6 u7++[H]) h:=by
 intro h hh;rcases ax_.1 hh with hh | hh
 .refine aZ.left ?_;simp only[List.mem_cons,List.not_mem_nil,or_false]at hh;rcases hh with rfl | rfl | rfl | rfl | rfl | rfl | rfl
  .exact jx (.head _)
  .exact jx (.tail _ (.head _))
  .exact jx (.tail _ (.tail _ (.head _)))
  .exact jx (.tail _ (.tail _ (.tail _ (.head _))))
  .exact jx (.tail _ (.tail _ (.tail _ (.tail _ (.head _)))))
  .exact jx (.tail _ (.tail _ (.tail _ (.tail _ (.tail _ (.head _))))))
  .exact jx (.tail _ (.tail _ (.tail _ (.tail _ (.tail _ (.tail _ (.head _)))))))
 .rw [ax2.1 hh];exact aZ.right aZ.look
def nh(s:Vs.State)(most cP:Int):Int:=if lL s most cP=true then(if 4194286<(aX.enc s).length then 3 else 0)else 2
def jB(s:Vs.State)(most cP:Int):List Nat:=if nh s most cP=0 then eP (aX.enc s)else []
theorem Mq(s:Vs.State)(most cP:Int)(u1 u2 u3 u4 u5 u6 u7:V1)(C:Nat->Int)(H:HP)(hP:lK (HP.look H) s.table.aD C)(hs:sQ s)(hm:lL s most cP=true->most=(s.table.most:Int)/\cP=(s.call.fu:Int) - 1/\zR s)(hb:hZ (aX.enc s)):
  ao ax8 9 [.agg (kI s most cP u1.v u2.v u3.v u4.v u5.v u6.v u7.v).toArray] (ef true s C u1.v u2.v u3.v u4.v u5.v u6.v u7.v++[H]) λr hs=>
   ∃o:V1,r= .tuple #[o.v,.int .i64 (nh s most cP)]/\hs=ef true s C u1.v u2.v u3.v u4.v u5.v u6.v u7.v++[H]++[aN true o.v (jB s most cP)]:=by
 have h0:ao ax8 9 [.agg (kI s most cP u1.v u2.v u3.v u4.v u5.v u6.v u7.v).toArray] ([]++(ef false s C u1.v u2.v u3.v u4.v u5.v u6.v u7.v++[HP.look H])) λr hs=> ∃o:V1,r= .tuple #[o.v,.int .i64 (nh s most cP)]/\hs=[aN true o.v (jB s most cP)]:=by
  refine ao.post (D4 s most cP u1 u2 u3 u4 u5 u6 u7 C (HP.look H) rfl hP hs hm hb) ?_;rintro r hs ⟨h1,h2,h3⟩;cases kA:lL s most cP with
  | false=>
   obtain⟨rfl,rfl⟩:=h1 kA;have e:nh s most cP=2:=by unfold nh;rw[kA];rfl
   have e2:jB s most cP=[]:=by unfold jB;rw[e];rfl
   rw[e,e2];exact⟨_,bq.tN 5 1,bh,rfl,rfl⟩
  | true=>
   by_cases hl:4194286<(aX.enc s).length
   .obtain⟨rfl,rfl⟩:=h2 kA hl;have e:nh s most cP=3:=by unfold nh;rw[if_pos kA,if_pos hl]
    have e2:jB s most cP=[]:=by unfold jB;rw[e];rfl
    rw[e,e2];exact⟨_,bq.tN 5 1,bh,rfl,rfl⟩
   .obtain⟨o,rfl,rfl⟩:=h3 kA (by omega);have e:nh s most cP=0:=by unfold nh;rw[if_pos kA,if_neg hl]
    have e2:jB s most cP=eP (aX.enc s):=by unfold jB;rw[if_pos e]
    rw[e,e2];exact⟨_,bq.refl _,o,rfl,rfl⟩
 refine ao.post (ao.C3 (B:=ef true s C u1.v u2.v u3.v u4.v u5.v u6.v u7.v++[H]) h0 ?_ (B3)) ?_
 .rintro _ hs ⟨o,_,rfl⟩ x hx;rw[ax2.1 hx];rfl
 .rintro r hs ⟨zF,⟨o,rfl,rfl⟩,rfl⟩;exact⟨_,bq.perm List.perm_append_comm,o,rfl,rfl⟩
theorem Ip(s:Vs.State)(u1 u2 u3 u4 u5 u6 u7:V1)(C:Nat->Int)(H:HP)(hP:lK (HP.look H) s.table.aD C)(hs:zR s)(hl:(aX.enc s).length<=140737488355328):
  ao ax8 13 [.agg (j7 s u1.v u2.v u3.v u4.v u5.v u6.v u7.v).toArray] (ef true s C u1.v u2.v u3.v u4.v u5.v u6.v u7.v++[H]) λr hs=> ∃o:V1,r=o.v/\hs=ef true s C u1.v u2.v u3.v u4.v u5.v u6.v u7.v++[H]++[aN true o.v (aX.enc s)]:=by
 have h0:ao ax8 13 [.agg (j7 s u1.v u2.v u3.v u4.v u5.v u6.v u7.v).toArray] ([]++(ef false s C u1.v u2.v u3.v u4.v u5.v u6.v u7.v++[HP.look H])) λr hs=> ∃o:V1,r=o.v/\hs=[aN true o.v (aX.enc s)]:=uY s u1 u2 u3 u4 u5 u6 u7 C (HP.look H) rfl hP hs hl
 refine ao.post (ao.C3 (B:=ef true s C u1.v u2.v u3.v u4.v u5.v u6.v u7.v++[H]) h0 ?_ (B3)) ?_
 .rintro _ hs ⟨o,_,rfl⟩ x hx;rw[ax2.1 hx];rfl
 .rintro r hs ⟨zF,⟨o,rfl,rfl⟩,rfl⟩;exact⟨_,bq.perm List.perm_append_comm,o,rfl,rfl⟩
theorem Mr(s:Vs.State)(most cP:Int)(u1 u2 u3 u4 u5 u6 u7:V1)(C:Nat->Int)(H:HP)(hP:lK (HP.look H) s.table.aD C)(hs:sQ s):
  ao ax8 10 [.agg (kI s most cP u1.v u2.v u3.v u4.v u5.v u6.v u7.v).toArray] (ef true s C u1.v u2.v u3.v u4.v u5.v u6.v u7.v++[H]) λr hs=>hs=ef true s C u1.v u2.v u3.v u4.v u5.v u6.v u7.v++[H]/\r= .bool (lL s most cP):=
 pf (tA s most cP u1 u2 u3 u4 u5 u6 u7 C (HP.look H) rfl hP hs) (B3)
def Fc:Vs.State:=⟨Xk,0,⟨⟨⟨0,0⟩,Xk,Xk,[]⟩,0,[]⟩,⟨⟨0,0⟩,List.replicate 8 0,[],0,List.replicate 16 0,false,0,⟨0,0⟩,Xk,Xk,Xk,[],1,[],0,0,0,0,0,0⟩,[],[]⟩
set_option maxRecDepth 100000 in
theorem Iq:Vm=j7 Fc bh.v bh.v bh.v bh.v bh.v bh.v bh.v:=by rfl
def qA(l:List Nat):Int:=if kB l=none then(if 4194304<l.length then 3 else 9)else 0
def bd(l:List Nat):Vs.State:=(kB l).getD Fc
theorem acS{s:Vs.State}{C:Nat->Int}{u1 u2 u3 u4 u5 u6 u7:Value}: ∀h∈ef true s C u1 u2 u3 u4 u5 u6 u7,h.wr=true:=by
 intro h hh;simp only[List.mem_cons,List.not_mem_nil,or_false]at hh;rcases hh with rfl | rfl | rfl | rfl | rfl | rfl | rfl<;>rfl
theorem KH(v:V1)(l:List Nat)(hl:hZ l)(B:List HP)(hB:aZ B (aN false v.v l)):ao ax8 17 [v.v] B λr hs=>
  ∃(u1 u2 u3 u4 u5 u6 u7:V1) (C:Nat->Int) (H:HP),r= .tuple #[.agg (j7 (bd l) u1.v u2.v u3.v u4.v u5.v u6.v u7.v).toArray,.int .i64 (qA l)]/\hs=B++(ef true (bd l) C u1.v u2.v u3.v u4.v u5.v u6.v u7.v++[H])/\H.wr=true/\lK (HP.look H) (bd l).table.aD C:=by
 have h0:ao ax8 17 [v.v] ([]++[aN false v.v l]) λr hs=> ∃(u1 u2 u3 u4 u5 u6 u7:V1) (C:Nat->Int) (H:HP),r= .tuple #[.agg (j7 (bd l) u1.v u2.v u3.v u4.v u5.v u6.v u7.v).toArray,.int .i64 (qA l)]/\hs=ef true (bd l) C u1.v u2.v u3.v u4.v u5.v u6.v u7.v++[H]/\H.wr=true/\lK (HP.look H) (bd l).table.aD C:=by
  refine ao.post (KD v l hl) ?_;rintro r hs ⟨h1,h2⟩;cases h:kB l with
  | none=>
   obtain⟨rfl,rfl⟩:=h2 h;have e:bd l=Fc:=by unfold bd;rw[h];rfl
   have e2:qA l=if 4194304<l.length then 3 else 9:=by unfold qA;rw[if_pos h]
   rw[e,e2,Iq];refine⟨_,?_,bh,bh,bh,bh,bh,bh,bh,λ_=>0,HP.none,rfl,rfl,rfl,λi hi=>absurd hi (Nat.not_lt_zero i)⟩;exact bq.u_ (bq.u_ (b:=[_]) (bq.tN 93 33) (bq.u_ (b:=[_]) (bq.tN 68 3) (bq.u_ (b:=[_]) (bq.tN 36 16) (bq.u_ (b:=[_]) (bq.tN 5 1) (bq.u_ (b:=[_]) (bq.tN 26 2) (bq.u_ (b:=[_]) (bq.tN 5 1) (bq.tN 98 19))))))) bq.none
  | some S=>
   obtain⟨u1,u2,u3,u4,u5,u6,u7,C,H,rfl,rfl,h3,h4⟩:=h1 S h;have e:bd l=S:=by unfold bd;rw[h];rfl
   have e2:qA l=0:=by unfold qA;rw[if_neg (by rw[h];simp)]
   rw[e,e2];exact⟨_,bq.perm (List.perm_append_comm (l₁:=[H])),u1,u2,u3,u4,u5,u6,u7,C,H,rfl,rfl,h3,h4⟩
 refine ao.post (ao.C3 (B:=B) h0 ?_ ?_) ?_
 .rintro _ hs ⟨u1,u2,u3,u4,u5,u6,u7,C,H,_,rfl,h3,_⟩ x hx;rcases ax_.1 hx with hx | hx
  .exact acS x hx
  .rw [ax2.1 hx];exact h3
 .intro x hx;rw[ax2.1 hx];exact hB
 .rintro r hs ⟨zF,⟨u1,u2,u3,u4,u5,u6,u7,C,H,rfl,rfl,h3,h4⟩,rfl⟩;exact⟨_,bq.perm List.perm_append_comm,u1,u2,u3,u4,u5,u6,u7,C,H,rfl,rfl,h3,h4⟩
open Go Go.RX Go.Proofs Go.Vs
set_option maxRecDepth 100000 in
theorem Pl{o:List dj}(h:o=[]\/o=jc):lL (plain o) 31 (-1)=true:=by
 rcases h with rfl | rfl<;>decide
theorem Ir{o:List dj}(h:o=[]\/o=jc):aX.ok (plain o):=by
 have ho:o.length<256^4/\∀a∈o,dE.ok a:=by
  rcases h with rfl | rfl
  .exact⟨by decide,λa ha=>by cases ha⟩
  .refine⟨by decide,λa ha=>?_⟩;rw[jc,ax2]at ha;subst ha;exact⟨(by decide:3<256^4),rfl⟩
 have n0: ∀{α:Type} {c:rP α},(list c).ok []:=λ{α c}=>⟨by show 0<256^4;decide,λa ha=>by cases ha⟩
 exact⟨rfl,(by decide:0<256^8),⟨⟨⟨(by decide:1<256^1),(by decide:2<256^1)⟩,rfl,rfl,ho⟩,(by decide:31<256^4),n0⟩,⟨⟨(by decide:1<256^1),(by decide:2<256^1)⟩,rfl,n0,(by decide:0<256^1),rfl,trivial,(by decide:0<256^1),⟨(by decide:0<256^1),(by decide:0<256^1)⟩,rfl,rfl,rfl,(by decide:0<256^4),(by decide:0<256^1),n0,(by decide:0<256^8),(by decide:0<256^8),(by decide:0<256^8),(by decide:0<256^8),(by decide:0<256^8),(by decide:0<256^4)⟩,(by decide:0<256^4),n0⟩
theorem KJ{s:Vs.State}(iW:aX.ok s)(hlen:(aX.enc s).length<=4194286)(kA:lL s (s.table.most:Int) ((s.call.fu:Int) - 1)=true):kB (eP (aX.enc s))=some s:=by
 obtain⟨m,hm⟩: ∃m,m=aX.enc s:=⟨_,rfl⟩;have hf:=aX.fwd s [] iW;rw[List.append_nil]at hf;rw[<-hm]at hlen hf ⊢;obtain⟨h1,h2,h3⟩:=Ib (l:=eP m) (m:=m) rfl (Nat.lt_of_le_of_lt hlen (by decide));have hi:qz (eP m)=(s,some []):=by
  unfold qz;rw[h3];exact hf
 have hl:(eP m).length<=4194304:=by
  rw[eP,axP,dq,List.length_take,cK];omega
 unfold kB;rw[hi,if_pos ⟨hl,h1,h2,rfl,kA⟩]
theorem T7{l:List Nat}(h:BZ l):kB (bc l 0 (l.length - 1))=none:=by
 unfold kB;rw[if_neg];rintro ⟨_,⟨h18,_⟩,⟨hn,_⟩,_⟩;have hl:(bc l 0 (l.length - 1)).length=l.length - 1:=gM (Nat.zero_le _) (by omega);rw[hl]at h18 hn;have e:bc (bc l 0 (l.length - 1)) 6 10=bc l 6 10:=by
  simp only[bc,List.drop_zero,List.drop_take,List.take_take];congr 1;omega
 rw[e,h.1]at hn;omega
open Go Go.RX Go.Proofs Go.Vs
set_option maxRecDepth 100000 in
theorem Pm{o:List dj}(h:o=[]\/o=jc):100<=(aX.enc (plain o)).length/\(aX.enc (plain o)).length<=1000:=by
 rcases h with rfl | rfl<;>decide
set_option maxRecDepth 100000 in
theorem T8{o:List dj}(h:o=[]\/o=jc): ∀x∈aX.enc (plain o),x<256:=by
 rcases h with rfl | rfl<;>decide
abbrev lM(s:Vs.State):Vs.State:={s with call:={s.call with me:=⟨0,0⟩}}
set_option maxRecDepth 100000 in
theorem KK{o:List dj}(h:o=[]\/o=jc):lL (lM (plain o)) 31 (-1)=false:=by
 rcases h with rfl | rfl<;>decide
set_option maxRecDepth 100000 in
theorem Pn{o:List dj}(h:o=[]\/o=jc): ∀x∈aX.enc (lM (plain o)),x<256:=by
 rcases h with rfl | rfl<;>decide
set_option maxRecDepth 100000 in
theorem KL{o:List dj}(h:o=[]\/o=jc):(aX.enc (lM (plain o))).length<=1000:=by
 rcases h with rfl | rfl<;>decide
theorem Po{o:List dj}(h:o=[]\/o=jc):aX.ok (lM (plain o)):=by
 obtain⟨h1,h2,h3,⟨h4,h5⟩,h6⟩:=Ir h;exact⟨h1,h2,h3,⟨⟨(by decide:0<256^1),(by decide:0<256^1)⟩,h5⟩,h6⟩
structure Plain (S:Vs.State):Prop where
 may:lL S (S.table.most:Int) ((S.call.fu:Int) - 1)=true
 ok:aX.ok S
 len:100<=(aX.enc S).length/\(aX.enc S).length<=1000
 lt: ∀x∈aX.enc S,x<256
 pe:S.table.aD=[]
 au0:lL (lM S) (S.table.most:Int) ((S.call.fu:Int) - 1)=false
 nok:aX.ok (lM S)
 aom:(aX.enc (lM S)).length<=1000
 nlt: ∀x∈aX.enc (lM S),x<256
theorem Is{o:List dj}(h:o=[]\/o=jc):Plain (plain o):=
 ⟨Pl h,Ir h,Pm h,T8 h,rfl,KK h,Po h,KL h,Pn h⟩
theorem T9{l:List Nat}(h: ∀x∈l,x<256): ∀x∈eP l,x<256:=λx hx=>by
 rcases ax_.1 hx with hx | hx
 .exact BX h x hx
 .exact Ml _ x (List.mem_of_mem_take hx)
theorem take_nil:qA []=9:=by
 have:kB []=none:=by
  unfold kB;rw[if_neg];rintro ⟨_,⟨h,_⟩,_⟩;exact absurd h (by decide)
 unfold qA;rw[if_pos this];rfl
theorem sU(v:V1)(l:List Nat)(hl:hZ l)(B:List HP)(hB:aZ B (aN false v.v l)):ao ax8 17 [v.v] B λr hs=>
  ∃(u1 u2 u3 u4 u5 u6 u7:V1) (C:Nat->Int),r= .tuple #[.agg (j7 (bd l) u1.v u2.v u3.v u4.v u5.v u6.v u7.v).toArray,.int .i64 (qA l)]/\hs=B++ef true (bd l) C u1.v u2.v u3.v u4.v u5.v u6.v u7.v:=by
 refine ao.post (KH v l hl B hB) ?_;rintro r hs ⟨u1,u2,u3,u4,u5,u6,u7,C,H,rfl,rfl,_,_⟩;refine⟨_,bq.sub (List.Sublist.append (List.Sublist.refl B) (List.sublist_append_left _ [H])),u1,u2,u3,u4,u5,u6,u7,C,rfl,rfl⟩
set_option maxRecDepth 100000 in
set_option maxHeartbeats 4000000 in
theorem Iu:ao ax8 7 [] [] λr hs=>r= .bool true/\hs=[]:=by
 refine ao.post (Sy (λr _=>r= .bool true) ?_) ?_;rotate_left
 .rintro r hs rfl;exact⟨[],bq.sub (List.nil_sublist _),rfl,rfl⟩
 unfold HF;refine⟨_,Ie,?_⟩;rintro x hs ⟨o,v,ho,rfl,rfl⟩;obtain⟨kA,iW,hln,cC,Jj,zK,nok,aom,nlt⟩:=Is ho;generalize plain o=S at*;have Zy:=Al iW;have Vk:hZ (aX.enc S):=⟨cC,by omega⟩;have hPe:lK (HP.look HP.none) S.table.aD (λ_=>0):=λi hi=>by rw[Jj]at hi;exact absurd hi (Nat.not_lt_zero i)
 have ahQ:nh S (S.table.most:Int) ((S.call.fu:Int) - 1)=0:=by
  unfold nh;rw[if_pos kA,if_neg (by omega)]
 have ahR:jB S (S.table.most:Int) ((S.call.fu:Int) - 1)=eP (aX.enc S):=by
  unfold jB;rw[if_pos ahQ]
 obtain⟨L,hL⟩: ∃L,L=eP (aX.enc S):=⟨_,rfl⟩;have hwo:=Ib hL (Nat.lt_of_le_of_lt hln.2 (by decide));have hLn:L.length=(aX.enc S).length+18:=by
  rw[hL,eP,axP,dq,List.length_take,cK];omega
 have hLl: ∀x∈L,x<256:=by
  rw[hL];exact T9 cC
 have hLo:hZ L:=⟨hLl,by omega⟩;have hT:kB L=some S:=by
  rw[hL];exact KJ iW (by omega) kA
 have eS:bd L=S:=by unfold bd;rw[hT];rfl
 have eE:qA L=0:=by unfold qA;rw[if_neg (by rw[hT];simp)]
 have Jy:=T7 hwo.2.1;have eC:qA (bc L 0 (L.length - 1))=9:=by
  unfold qA;rw[if_pos Jy,if_neg];rw[gM (Nat.zero_le _) (by omega)];omega
 refine⟨v,bh,bh,bh,bh,bh,bh,(S.drawn:Int),(S.table.keys.dev.a:Int),(S.table.keys.dev.d:Int),(S.table.most:Int),(S.call.me.a:Int),(S.call.me.d:Int),(S.call.state:Int),bi S.call.out,(S.call.aM:Int),(S.call.peer.a:Int),(S.call.peer.d:Int),((S.call.fu:Int) - 1),(S.call.eD:Int),(S.call.bP:Int),(S.call.since:Int),(S.call.heard:Int),(S.call.lJ:Int),(S.call.fQ:Int),(S.table.keys.once.length:Int),(S.table.aD.length:Int),(S.call.dead.length:Int),(S.call.marks.length:Int),(S.call.early.length:Int),(S.log.length:Int),(S.aF.length:Int),aJ S.lW,aJ S.table.keys.ident,aJ S.table.keys.signed,aJ S.call.bE,aJ S.call.id,aJ S.call.own,aJ S.call.cH,aJ S.call.fi,bu dj.id S.table.keys.once,cb dj.cT S.table.keys.once,bu (λp:eu=>p.dev.a) S.table.aD,bu (λp:eu=>p.dev.d) S.table.aD,(λ_=>0),cb (λx=>x) S.call.dead,aJ S.call.marks,bu js.a S.call.early,bu js.d S.call.early,aJ S.log,cb Room.id S.aF,bu Room.aM S.aF,dK Room.out S.aF,bu Room.since S.aF,HP.none,rfl,rfl,λ_=>?_⟩;refine⟨_,Mq S (S.table.most:Int) ((S.call.fu:Int) - 1) v bh bh bh bh bh bh (λ_=>0) HP.none hPe (sS Zy Vk) (λ_=>⟨rfl,rfl,Zy⟩) Vk,?_⟩;rw[ahQ,ahR,<-hL];rintro x hs ⟨w,rfl,rfl⟩;refine⟨w,0,(L.length:Int),aJ L,rfl,rfl,?_⟩;have tk:=sU w L hLo [aN true w.v L] aZ.own;rw[eS,eE]at tk;refine⟨_,tk,?_⟩;rintro x hs ⟨u1,u2,u3,u4,u5,u6,u7,C,rfl,rfl⟩
 refine⟨u1,u2,u3,u4,u5,u6,u7,(S.drawn:Int),(S.table.keys.dev.a:Int),(S.table.keys.dev.d:Int),(S.table.most:Int),(S.call.me.a:Int),(S.call.me.d:Int),(S.call.state:Int),bi S.call.out,(S.call.aM:Int),(S.call.peer.a:Int),(S.call.peer.d:Int),((S.call.fu:Int) - 1),(S.call.eD:Int),(S.call.bP:Int),(S.call.since:Int),(S.call.heard:Int),(S.call.lJ:Int),(S.call.fQ:Int),(S.table.keys.once.length:Int),(S.table.aD.length:Int),(S.call.dead.length:Int),(S.call.marks.length:Int),(S.call.early.length:Int),(S.log.length:Int),(S.aF.length:Int),0,aJ S.lW,aJ S.table.keys.ident,aJ S.table.keys.signed,aJ S.call.bE,aJ S.call.id,aJ S.call.own,aJ S.call.cH,aJ S.call.fi,bu dj.id S.table.keys.once,cb dj.cT S.table.keys.once,bu (λp:eu=>p.dev.a) S.table.aD,bu (λp:eu=>p.dev.d) S.table.aD,C,cb (λx=>x) S.call.dead,aJ S.call.marks,bu js.a S.call.early,bu js.d S.call.early,aJ S.log,cb Room.id S.aF,bu Room.aM S.aF,dK Room.out S.aF,bu Room.since S.aF,HP.none,rfl,rfl,λ_=>⟨.inr (ax4 _),λ_=>⟨λ_=>?_,λh=>absurd h ?_⟩⟩⟩;rotate_left
 .simp only[not_true_eq_false,false_or,Classical.not_not];omega
 refine⟨_,Ip S u1 u2 u3 u4 u5 u6 u7 C HP.none (λi hi=>by rw[Jj]at hi;exact absurd hi (Nat.not_lt_zero i)) Zy (by omega),?_⟩;rintro x hs ⟨b,rfl,rfl⟩;refine⟨b,((aX.enc S).length:Int),aJ (aX.enc S),rfl,rfl,?_⟩;rw[if_pos (by simp;omega)];refine⟨_,Ip S v bh bh bh bh bh bh (λ_=>0) HP.none hPe Zy (by omega),?_⟩;rintro x hs ⟨b',rfl,rfl⟩;refine⟨b',((aX.enc S).length:Int),aJ (aX.enc S),rfl,rfl,⟨λ_=>?_,λh=>absurd rfl h⟩⟩;refine⟨_,Mr S (S.table.most:Int) ((S.call.fu:Int) - 1) v bh bh bh bh bh bh (λ_=>0) HP.none hPe (sS Zy Vk),?_⟩;rintro x hs ⟨rfl,rfl⟩;refine⟨true,congrArg Value.bool kA,rfl,⟨λh=>absurd rfl h,λ_=>?_⟩⟩;refine⟨_,sU bh [] ⟨(λx h=>nomatch h),Nat.zero_le _⟩ [] aZ.nil,?_⟩;rw[take_nil];rintro x hs ⟨u1,u2,u3,u4,u5,u6,u7,C,rfl,rfl⟩
 refine⟨u1,u2,u3,u4,u5,u6,u7,((bd []).drawn:Int),((bd []).table.keys.dev.a:Int),((bd []).table.keys.dev.d:Int),((bd []).table.most:Int),((bd []).call.me.a:Int),((bd []).call.me.d:Int),((bd []).call.state:Int),bi (bd []).call.out,((bd []).call.aM:Int),((bd []).call.peer.a:Int),((bd []).call.peer.d:Int),(((bd []).call.fu:Int) - 1),((bd []).call.eD:Int),((bd []).call.bP:Int),((bd []).call.since:Int),((bd []).call.heard:Int),((bd []).call.lJ:Int),((bd []).call.fQ:Int),((bd []).table.keys.once.length:Int),((bd []).table.aD.length:Int),((bd []).call.dead.length:Int),((bd []).call.marks.length:Int),((bd []).call.early.length:Int),((bd []).log.length:Int),((bd []).aF.length:Int),9,aJ (bd []).lW,aJ (bd []).table.keys.ident,aJ (bd []).table.keys.signed,aJ (bd []).call.bE,aJ (bd []).call.id,aJ (bd []).call.own,aJ (bd []).call.cH,aJ (bd []).call.fi,bu dj.id (bd []).table.keys.once,cb dj.cT (bd []).table.keys.once,bu (λp:eu=>p.dev.a) (bd []).table.aD,bu (λp:eu=>p.dev.d) (bd []).table.aD,C,cb (λx=>x) (bd []).call.dead,aJ (bd []).call.marks,bu js.a (bd []).call.early,bu js.d (bd []).call.early,aJ (bd []).log,cb Room.id (bd []).aF,bu Room.aM (bd []).aF,dK Room.out (bd []).aF,bu Room.since (bd []).aF,HP.none,rfl,rfl,λ_=>⟨ax4 _,λ_=>⟨by omega,λ_=>⟨by omega,λ_=>⟨by omega,λ_=>⟨by omega,λ_=>?_⟩⟩⟩⟩⟩⟩;have en:((L.length:Int) - 1).toNat=L.length - 1:=by omega
 rw[en];have tk2:=sU ⟨aK 1 w.v 0 (L.length - 1) none,cD _ _ _ _ _⟩ (bc L 0 (L.length - 1)) (BY hLo) [aN true w.v L] (uZ aZ.own (Nat.zero_le _) (by omega));rw[eC]at tk2;refine⟨_,tk2,?_⟩;rintro x hs ⟨u1,u2,u3,u4,u5,u6,u7,C,rfl,rfl⟩
 refine⟨u1,u2,u3,u4,u5,u6,u7,((bd (bc L 0 (L.length - 1))).drawn:Int),((bd (bc L 0 (L.length - 1))).table.keys.dev.a:Int),((bd (bc L 0 (L.length - 1))).table.keys.dev.d:Int),((bd (bc L 0 (L.length - 1))).table.most:Int),((bd (bc L 0 (L.length - 1))).call.me.a:Int),((bd (bc L 0 (L.length - 1))).call.me.d:Int),((bd (bc L 0 (L.length - 1))).call.state:Int),bi (bd (bc L 0 (L.length - 1))).call.out,((bd (bc L 0 (L.length - 1))).call.aM:Int),((bd (bc L 0 (L.length - 1))).call.peer.a:Int),((bd (bc L 0 (L.length - 1))).call.peer.d:Int),(((bd (bc L 0 (L.length - 1))).call.fu:Int) - 1),((bd (bc L 0 (L.length - 1))).call.eD:Int),((bd (bc L 0 (L.length - 1))).call.bP:Int),((bd (bc L 0 (L.length - 1))).call.since:Int),((bd (bc L 0 (L.length - 1))).call.heard:Int),((bd (bc L 0 (L.length - 1))).call.lJ:Int),((bd (bc L 0 (L.length - 1))).call.fQ:Int),((bd (bc L 0 (L.length - 1))).table.keys.once.length:Int),((bd (bc L 0 (L.length - 1))).table.aD.length:Int),((bd (bc L 0 (L.length - 1))).call.dead.length:Int),((bd (bc L 0 (L.length - 1))).call.marks.length:Int),((bd (bc L 0 (L.length - 1))).call.early.length:Int),((bd (bc L 0 (L.length - 1))).log.length:Int),((bd (bc L 0 (L.length - 1))).aF.length:Int),9,aJ (bd (bc L 0 (L.length - 1))).lW,aJ (bd (bc L 0 (L.length - 1))).table.keys.ident,aJ (bd (bc L 0 (L.length - 1))).table.keys.signed,aJ (bd (bc L 0 (L.length - 1))).call.bE,aJ (bd (bc L 0 (L.length - 1))).call.id,aJ (bd (bc L 0 (L.length - 1))).call.own,aJ (bd (bc L 0 (L.length - 1))).call.cH,aJ (bd (bc L 0 (L.length - 1))).call.fi,bu dj.id (bd (bc L 0 (L.length - 1))).table.keys.once,cb dj.cT (bd (bc L 0 (L.length - 1))).table.keys.once,bu (λp:eu=>p.dev.a) (bd (bc L 0 (L.length - 1))).table.aD,bu (λp:eu=>p.dev.d) (bd (bc L 0 (L.length - 1))).table.aD,C,cb (λx=>x) (bd (bc L 0 (L.length - 1))).call.dead,aJ (bd (bc L 0 (L.length - 1))).call.marks,bu js.a (bd (bc L 0 (L.length - 1))).call.early,bu js.d (bd (bc L 0 (L.length - 1))).call.early,aJ (bd (bc L 0 (L.length - 1))).log,cb Room.id (bd (bc L 0 (L.length - 1))).aF,bu Room.aM (bd (bc L 0 (L.length - 1))).aF,dK Room.out (bd (bc L 0 (L.length - 1))).aF,bu Room.since (bd (bc L 0 (L.length - 1))).aF,HP.none,rfl,rfl,λ_=>?_⟩
 have hSn:=Al nok;have hbn:hZ (aX.enc (lM S)):=⟨nlt,by omega⟩;have eN:nh (lM S) (S.table.most:Int) ((S.call.fu:Int) - 1)=2:=by
  unfold nh;rw[if_neg (by rw[zK];simp)]
 refine⟨_,Mq (lM S) (S.table.most:Int) ((S.call.fu:Int) - 1) v bh bh bh bh bh bh (λ_=>0) HP.none hPe (sS hSn hbn) (λ_=>⟨rfl,rfl,hSn⟩) hbn,?_⟩;rw[eN];rintro x hs ⟨w2,rfl,rfl⟩;refine⟨w2,2,((jB (lM S) (S.table.most:Int) ((S.call.fu:Int) - 1)).length:Int),aJ (jB (lM S) (S.table.most:Int) ((S.call.fu:Int) - 1)),rfl,rfl,⟨λ_=>?_,λh=>absurd ⟨⟨rfl,rfl⟩,rfl⟩ h⟩⟩;refine⟨_,Mr (lM S) (S.table.most:Int) ((S.call.fu:Int) - 1) v bh bh bh bh bh bh (λ_=>0) HP.none hPe (sS hSn hbn),?_⟩;rintro x hs ⟨rfl,rfl⟩;exact⟨false,congrArg Value.bool zK,rfl,rfl⟩
open Go Go.RX Go.Proofs Go.Vs
def wS(l:List bX):Nat:=(l.map λe=>400+68*e.s.aC.length).sum
def KM(l:List eu):Nat:=(l.map λp=>wS p.l).sum
def ni(s:Vs.State):Nat:=s.log.length+32*s.aF.length+16*s.call.dead.length+s.call.marks.length+s.call.early.length+40*s.table.keys.once.length+KM s.table.aD
theorem Iv{α:Type}(f:α->Nat)(l:List α)(i:Nat)(h:i<l.length):((l.take (i+1)).map f).sum=((l.take i).map f).sum+f l[i]:=by
 rw[du _ _ h,List.map_append,List.sum_append];simp
theorem Ms(a:Int):ae .i64 a=if 9223372036854775808<=a%18446744073709551616 then a%18446744073709551616 - 18446744073709551616 else a%18446744073709551616:=by
 show(if(true&&decide (a%2^64>=2^63))=true then a%2^64 - 2^64 else a%2^64)=_;simp only[Bool.true_and,decide_eq_true_eq,ge_iff_le];rfl
theorem wrap_add(a b c:Int)(h:ae .i64 a=ae .i64 b):ae .i64 (ae .i64 a+c)=ae .i64 (b+c):=by
 simp only[Ms]at h ⊢;split at h<;>split at h<;>split<;>omega
theorem Mt(a:Int)(h:0<=a)(h':a<=9223372036854775807):ae .i64 a=a:=by
 rw[Ms,if_neg (by omega)];omega
theorem Ff(C:Nat->Int)(i:Nat)(V:V1)(hV:V.v=bg (C i)):(λj=>if j=i then V.v else bg (C j))=λj=>bg (C j):=by
 funext j;by_cases hj:j=i
 .rw [if_pos hj,hV,hj]
 .rw [if_neg hj]
set_option maxRecDepth 100000 in
set_option maxHeartbeats 4000000 in
theorem KN(s:Vs.State)(most cP:Int)(u1 u2 u3 u4 u5 u6 u7:V1)(C:Nat->Int)(H:HP)(hH:H.wr=false)(hP:lK H s.table.aD C)(hs:sQ s):
  ao ax8 8 [.agg (kI s most cP u1.v u2.v u3.v u4.v u5.v u6.v u7.v).toArray] (ef false s C u1.v u2.v u3.v u4.v u5.v u6.v u7.v++[H]) λr hs=>hs=[]/\r= .bool (decide (60000<ae .i64 (ni s:Int))):=by
 refine ao.post (Ss (λr _=>r= .bool (decide (60000<ae .i64 (ni s:Int)))) (s.drawn:Int) (s.table.keys.dev.a:Int) (s.table.keys.dev.d:Int) most (s.call.me.a:Int) (s.call.me.d:Int) (s.call.state:Int) (bi s.call.out) (s.call.aM:Int) (s.call.peer.a:Int) (s.call.peer.d:Int) cP (s.call.eD:Int) (s.call.bP:Int) (s.call.since:Int) (s.call.heard:Int) (s.call.lJ:Int) (s.call.fQ:Int) (s.table.keys.once.length:Int) (s.table.aD.length:Int) (s.call.dead.length:Int) (s.call.marks.length:Int) (s.call.early.length:Int) (s.log.length:Int) (s.aF.length:Int) (aJ s.lW) (aJ s.table.keys.ident) (aJ s.table.keys.signed) (aJ s.call.bE) (aJ s.call.id) (aJ s.call.own) (aJ s.call.cH) (aJ s.call.fi) (bu dj.id s.table.keys.once) (cb dj.cT s.table.keys.once) (bu (λp:eu=>p.dev.a) s.table.aD) (bu (λp:eu=>p.dev.d) s.table.aD) C (cb (λx=>x) s.call.dead) (aJ s.call.marks) (bu js.a s.call.early) (bu js.d s.call.early) (aJ s.log) (cb Room.id s.aF) (bu Room.aM s.aF) (dK Room.out s.aF) (bu Room.since s.aF) u1 u2 u3 u4 u5 u6 u7 H ?_) ?_;rotate_left
 .rintro r hs rfl;exact⟨[],bq.sub (List.nil_sublist _),rfl,rfl⟩
 unfold HC;have h1:=hs.once;have h2:=hs.dead;have h3:=hs.marks;have h4:=hs.early;have h5:=hs.log.n;have h6:=hs.aF;have h7:=hs.aD;rw[show(256^4:Nat)=4294967296 by decide]at h1 h2 h3 h4 h6 h7;intro b0
 iterate 4 refine⟨by omega,λ_=>?_⟩
 iterate 4 refine⟨by omega,λ_=>?_⟩
 iterate 4 refine⟨by omega,λ_=>?_⟩
 iterate 4 refine⟨by omega,λ_=>?_⟩
 iterate 4 refine⟨by omega,λ_=>?_⟩
 iterate 3 refine⟨by omega,λ_=>?_⟩
 obtain⟨base,Zz⟩: ∃base:Nat,base=s.log.length+32*s.aF.length+16*s.call.dead.length+s.call.marks.length+s.call.early.length+40*s.table.keys.once.length:=⟨_,rfl⟩;have hN:ni s=base+KM s.table.aD:=by rw[Zz];rfl
 refine⟨λe=> ∃(i:Nat) (x:Int),e=⟨[],[],[x,(i:Int)],[],[],[],[]⟩/\i<=s.table.aD.length/\ae .i64 x=ae .i64 ((base+KM (s.table.aD.take i):Nat):Int),λe=>s.table.aD.length - (e.i.getD 1 0).toNat,?_,?_⟩
 .refine⟨(base:Int),0,?_,rfl,0,(base:Int),rfl,Nat.zero_le _,rfl⟩;rw[Mt _ (by omega) (by omega),Zz];omega
 rintro i_ ki ⟨i,x,hx,hi,hw⟩;have hx:=hx.symm;simp only[Ext.mk.injEq,List.cons.injEq,and_true,true_and]at hx;obtain⟨rfl,rfl⟩:=hx;refine⟨λcC=>?_,λlS=>?_⟩
 .have cj:i<s.table.aD.length:=by omega
  obtain⟨D,hg,hS⟩:=hP i cj;obtain⟨p,hp⟩: ∃p,p=s.table.aD[i]:=⟨_,rfl⟩;have Jk:kb p:=by rw[hp];exact hs.peer _ (List.getElem_mem cj)
  rw[<-hp]at hg hS;obtain⟨V,hV⟩: ∃V:V1,V.v=bg (C i):=⟨⟨bg (C i),iU _⟩,rfl⟩;rw[<-hV]at hg;have ept:=Ff C i V hV;have ZA:aA false 68 3 u2.v s.table.aD.length (aG s.table.aD.length [ax .u8 1 (bu (·.dev.a) s.table.aD),ax .u8 1 (bu (·.dev.d) s.table.aD),cV 1 (λj=>if j=i then V.v else bg (C j))])=sL false u2.v s.table.aD C:=by rw[ept]
  have NG:=Jk.many;rw[show(256^4:Nat)=4294967296 by decide]at NG;refine⟨λe=>e=⟨[],[V],[(p.l.length:Int)],[cb (·.s.root) p.l,cb (·.s.bind) p.l,cb (·.s.own) p.l,cb (·.s.cJ) p.l,dK (·.s.gi) p.l,dK (·.s.gj) p.l,dK (·.s.gk) p.l,dK (·.s.cS) p.l,cb (·.s.send.key) p.l,bu (·.s.send.n) p.l,cb (·.s.recv.key) p.l,bu (·.s.recv.n) p.l,bu (·.s.prev) p.l,D,cb (·.ident) p.l,cb (·.qG) p.l,dK (·.cZ) p.l,bu (·.dH) p.l,dK (·.own) p.l,dK (·.current) p.l],[],[],[]⟩,λw Fs ho=>⟨V,(p.l.length:Int),cb (·.s.root) p.l,cb (·.s.bind) p.l,cb (·.s.own) p.l,cb (·.s.cJ) p.l,dK (·.s.gi) p.l,dK (·.s.gj) p.l,dK (·.s.gk) p.l,dK (·.s.cS) p.l,cb (·.s.send.key) p.l,bu (·.s.send.n) p.l,cb (·.s.recv.key) p.l,bu (·.s.recv.n) p.l,bu (·.s.prev) p.l,D,cb (·.ident) p.l,cb (·.qG) p.l,dK (·.cZ) p.l,bu (·.dH) p.l,dK (·.own) p.l,dK (·.current) p.l,?_,rfl⟩,?_⟩
  .have e1:bq [sL false u2.v s.table.aD C,H] [sL false u2.v s.table.aD C,H,ez false V.v p.l D]:=bq.front (A:=[_]) (bq.trans (cX.SF hH hg) (bq.perm (List.Perm.swap _ _ _)));have e2:bq [sL false u2.v s.table.aD C,H] [aA false 68 3 u2.v s.table.aD.length (aG s.table.aD.length [ax .u8 1 (bu (·.dev.a) s.table.aD),ax .u8 1 (bu (·.dev.d) s.table.aD),cV 1 (λj=>if j=i then V.v else bg (C j))]),H,ez false V.v p.l D]:=by
    rw[ZA];exact e1
   exact e2 w Fs ho
  rintro v7 iM iB jk iG kH mT mQ oS qH pK qI rO sH sI vo vp uU wD vq wE wF he;have he:=he.symm;simp only[Ext.mk.injEq,List.cons.injEq,and_true,true_and]at he;obtain⟨rfl,rfl,rfl,rfl,rfl,rfl,rfl,rfl,rfl,rfl,rfl,rfl,rfl,rfl,rfl,rfl,rfl,rfl,rfl,rfl,rfl,rfl⟩:=he;refine⟨by omega,λ_ b1=>⟨λ_=>True,λw Fs ho=>⟨?_,trivial⟩,λ_=>?_⟩⟩
  .have e1:bq [aA false 68 3 u2.v s.table.aD.length (aG s.table.aD.length [ax .u8 1 (bu (·.dev.a) s.table.aD),ax .u8 1 (bu (·.dev.d) s.table.aD),cV 1 (λj=>if j=i then V.v else bg (C j))]),ez false V.v p.l D] [sL false u2.v s.table.aD C,ez false V.v p.l D]:=by
    rw[ZA];exact bq.refl _
   exact e1 w Fs ho
  refine⟨by omega,λ_=>?_⟩;refine⟨λe=> ∃(j:Nat) (y:Int),e=⟨[],[],[y,(j:Int)],[],[],[],[]⟩/\j<=p.l.length/\ae .i64 y=ae .i64 ((base+KM (s.table.aD.take i)+wS (p.l.take j):Nat):Int),λe=>p.l.length - (e.i.getD 1 0).toNat,?_,?_⟩
  .exact⟨x,0,rfl,rfl,0,x,rfl,Nat.zero_le _,hw⟩
  rintro jY rj ⟨j,y,hy,hj,hwy⟩;have hy:=hy.symm;simp only[Ext.mk.injEq,List.cons.injEq,and_true,true_and]at hy;obtain⟨rfl,rfl⟩:=hy;refine⟨λagG=>?_,λTt=>?_⟩
  .have eF:j<p.l.length:=by omega
   have YS:=hS j eF;have heo:=Jk.qx _ (List.getElem_mem eF);obtain⟨sk,Wj⟩: ∃sk,sk=p.l[j].s.aC:=⟨_,rfl⟩;have ahT:=heo.many;rw[<-Wj]at YS ahT;rw[show(256^4:Nat)=4294967296 by decide]at ahT;obtain⟨V2,hV2⟩: ∃V2:V1,V2.v=bg (D j):=⟨⟨bg (D j),iU _⟩,rfl⟩;rw[<-hV2]at YS;have aoo:=Ff D j V2 hV2;have ahU:aA false 77 268 V.v p.l.length (aG p.l.length [ax .u8 32 (cb (·.s.root) p.l),ax .u8 32 (cb (·.s.bind) p.l),ax .u8 32 (cb (·.s.own) p.l),ax .u8 32 (cb (·.s.cJ) p.l),cR 1 (dK (·.s.gi) p.l),cR 1 (dK (·.s.gj) p.l),cR 1 (dK (·.s.gk) p.l),cR 1 (dK (·.s.cS) p.l),ax .u8 32 (cb (·.s.send.key) p.l),ax .u32 1 (bu (·.s.send.n) p.l),ax .u8 32 (cb (·.s.recv.key) p.l),ax .u32 1 (bu (·.s.recv.n) p.l),ax .u32 1 (bu (·.s.prev) p.l),cV 1 (λk=>if k=j then V2.v else bg (D k)),ax .u8 32 (cb (·.ident) p.l),ax .u8 32 (cb (·.qG) p.l),cR 1 (dK (·.cZ) p.l),ax .u32 1 (bu (·.dH) p.l),cR 1 (dK (·.own) p.l),cR 1 (dK (·.current) p.l)])=ez false V.v p.l D:=by rw[aoo]
   refine⟨λe=>e=⟨[],[V2],[(sk.length:Int)],[aJ (sk.flatMap fe.dh),bu fe.n sk,aJ (sk.flatMap fe.msg)],[],[],[]⟩,λw Fs ho=>⟨V2,(sk.length:Int),aJ (sk.flatMap fe.dh),bu fe.n sk,aJ (sk.flatMap fe.msg),?_,rfl⟩,?_⟩
   .have e1:bq [ez false V.v p.l D,H] [ez false V.v p.l D,H,nI false V2.v sk]:=bq.front (A:=[_]) (bq.trans (cX.SF hH YS) (bq.perm (List.Perm.swap _ _ _)));have e2:bq [ez false V.v p.l D,H] [aA false 77 268 V.v p.l.length (aG p.l.length [ax .u8 32 (cb (·.s.root) p.l),ax .u8 32 (cb (·.s.bind) p.l),ax .u8 32 (cb (·.s.own) p.l),ax .u8 32 (cb (·.s.cJ) p.l),cR 1 (dK (·.s.gi) p.l),cR 1 (dK (·.s.gj) p.l),cR 1 (dK (·.s.gk) p.l),cR 1 (dK (·.s.cS) p.l),ax .u8 32 (cb (·.s.send.key) p.l),ax .u32 1 (bu (·.s.send.n) p.l),ax .u8 32 (cb (·.s.recv.key) p.l),ax .u32 1 (bu (·.s.recv.n) p.l),ax .u32 1 (bu (·.s.prev) p.l),cV 1 (λk=>if k=j then V2.v else bg (D k)),ax .u8 32 (cb (·.ident) p.l),ax .u8 32 (cb (·.qG) p.l),cR 1 (dK (·.cZ) p.l),ax .u32 1 (bu (·.dH) p.l),cR 1 (dK (·.own) p.l),cR 1 (dK (·.current) p.l)]),H,nI false V2.v sk]:=by
     rw[ahU];exact e1
    exact e2 w Fs ho
   rintro v8 pR Jg C5 HE he;have he:=he.symm;simp only[Ext.mk.injEq,List.cons.injEq,and_true,true_and]at he;obtain⟨rfl,rfl,rfl,rfl,rfl⟩:=he;refine⟨by omega,λ_ b2=>⟨λ_=>True,λw Fs ho=>⟨?_,trivial⟩,λ_=>?_⟩⟩
   .have e4:bq [aA false 77 268 V.v p.l.length (aG p.l.length [ax .u8 32 (cb (·.s.root) p.l),ax .u8 32 (cb (·.s.bind) p.l),ax .u8 32 (cb (·.s.own) p.l),ax .u8 32 (cb (·.s.cJ) p.l),cR 1 (dK (·.s.gi) p.l),cR 1 (dK (·.s.gj) p.l),cR 1 (dK (·.s.gk) p.l),cR 1 (dK (·.s.cS) p.l),ax .u8 32 (cb (·.s.send.key) p.l),ax .u32 1 (bu (·.s.send.n) p.l),ax .u8 32 (cb (·.s.recv.key) p.l),ax .u32 1 (bu (·.s.recv.n) p.l),ax .u32 1 (bu (·.s.prev) p.l),cV 1 (λk=>if k=j then V2.v else bg (D k)),ax .u8 32 (cb (·.ident) p.l),ax .u8 32 (cb (·.qG) p.l),cR 1 (dK (·.cZ) p.l),ax .u32 1 (bu (·.dH) p.l),cR 1 (dK (·.own) p.l),cR 1 (dK (·.current) p.l)]),nI false V2.v sk] [ez false V.v p.l D,nI false V2.v sk]:=by
     rw[ahU];exact bq.refl _
    exact e4 w Fs ho
   iterate 7 refine⟨by omega,λ_=>?_⟩
   refine⟨λ_=>True,λw Fs ho=>⟨bq.sub (a:=[_]) (b:=[]) (List.nil_sublist _) w Fs ho,trivial⟩,λ_=>?_⟩;have T_:ae .i64 (ae .i64 y+(400+68*(sk.length:Int)))=ae .i64 ((base+KM (s.table.aD.take i)+wS (p.l.take (j+1)):Nat):Int):=by
    rw[wrap_add _ _ _ hwy];congr 1;unfold wS;rw[Iv _ _ _ eF,<-Wj];omega
   refine⟨ae .i64 y+(400+68*(sk.length:Int)),((j+1:Nat):Int),rfl,rfl,⟨j+1,_,rfl,by omega,T_⟩,?_⟩;simp only[ayI,ah];omega
  .have hjl:j=p.l.length:=by omega
   subst hjl;refine⟨by omega,λ_=>⟨by omega,λ_=>?_⟩⟩;refine⟨λ_=>True,λw Fs ho=>⟨bq.sub (a:=[_]) (b:=[]) (List.nil_sublist _) w Fs ho,trivial⟩,λ_=>?_⟩;have T_:ae .i64 y=ae .i64 ((base+KM (s.table.aD.take (i+1)):Nat):Int):=by
    rw[hwy,List.take_length];congr 1;unfold KM;rw[Iv _ _ _ cj,<-hp];omega
   refine⟨y,((i+1:Nat):Int),rfl,rfl,⟨i+1,_,rfl,by omega,T_⟩,?_⟩;simp only[ayI,ah];omega
 .have xQ:i=s.table.aD.length:=by omega
  subst xQ;rw[hw,List.take_length,<-hN]
end Go.RX.Vb
