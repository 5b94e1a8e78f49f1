/- StoreBack. -/
import Derived.Test.YtllcdnkfbeokhaaGreatM46
open Go.IntKind renaming wrap → ae
open Go.Proofs.Tryz renaming prog → auN
open Int renaming toNat → ag, toNat_natCast → auD
open List renaming getD_eq_getElem?_getD → auO, getElem?_eq_getElem → auU, length_append → aum, length_map → auJ, length_singleton → aun, mem_append → auE, mem_map → auL, mem_or_eq_of_mem_set → au1, mem_range → auG, mem_singleton → auz
namespace Go.RX.Vb
open Go Go.RX Go.Proofs Go.Vs
theorem Bl{s:Vs.State}{C:Nat→Int}{u1 u2 u3 u4 u5 u6 u7:Value}{H:HP}(hH:H.wr=false): ∀h∈ef false s C u1 u2 u3 u4 u5 u6 u7++[H],h.wr=false:=by
 intro h hh;rcases auE.1 hh with hh | hh
 ·exact lookW rfl h hh
 ·rw [auz.1 hh];exact hH
theorem S6(s:Vs.State)(most cM:Int)(u1 u2 u3 u4 u5 u6 u7:V1)(C:Nat→Int)(H:HP)(hH:H.wr=false)(hP:lg H s.table.aL C)(hs:si s)(hm:kf s most cM=true→most=(s.table.most:Int)∧cM=(s.call.fQ:Int) - 1∧AQ s)(hb:fL (aZ.enc s)):
  aq auN 9 [.agg (jY s most cM u1.v u2.v u3.v u4.v u5.v u6.v u7.v).toArray] (ef false s C u1.v u2.v u3.v u4.v u5.v u6.v u7.v++[H]) fun r hs=>
   ∃o:V1,r= .tuple #[o.v,.int .i64 (mH s most cM)]∧hs=ef false s C u1.v u2.v u3.v u4.v u5.v u6.v u7.v++[H]++[aR true o.v (je s most cM)]:=by
 refine aq.post (aq.JO (Dm s most cM u1 u2 u3 u4 u5 u6 u7 C H hH hP hs hm hb) (Bl hH)) ?_;rintro r hs ⟨nw,rfl,h1,h2,h3⟩;cases jT:kf s most cM with
 | false=>
  obtain⟨rfl,rfl⟩:=h1 jT;have e:mH s most cM=2:=by unfold mH;rw [jT];rfl
  have e2:je s most cM=[]:=by unfold je;rw [e];rfl
  rw [e,e2];exact⟨_,bI.front (a:=[]) (bI.uy 5 1),bj,rfl,rfl⟩
 | true=>
  by_cases hl:4194286<(aZ.enc s).length
  ·obtain⟨rfl,rfl⟩:=h2 jT hl;have e:mH s most cM=3:=by unfold mH;rw [if_pos jT,if_pos hl]
   have e2:je s most cM=[]:=by unfold je;rw [e];rfl
   rw [e,e2];exact⟨_,bI.front (a:=[]) (bI.uy 5 1),bj,rfl,rfl⟩
  ·obtain⟨o,rfl,rfl⟩:=h3 jT (by omega);have e:mH s most cM=0:=by unfold mH;rw [if_pos jT,if_neg hl]
   have e2:je s most cM=cy (aZ.enc s):=by unfold je;rw [if_pos e]
   rw [e,e2];exact⟨_,bI.refl _,o,rfl,rfl⟩
theorem JZ(s:Vs.State)(most cM:Int)(u1 u2 u3 u4 u5 u6 u7:V1)(C:Nat→Int)(H:HP)(hH:H.wr=false)(hP:lg H s.table.aL C)(hs:si s):
  aq auN 8 [.agg (jY s most cM u1.v u2.v u3.v u4.v u5.v u6.v u7.v).toArray] (ef false s C u1.v u2.v u3.v u4.v u5.v u6.v u7.v++[H]) fun r hs=>hs=ef false s C u1.v u2.v u3.v u4.v u5.v u6.v u7.v++[H]∧r= .bool (decide (60000<ae .i64 (nN s:Int))):=
 aq.looks (JY s most cM u1 u2 u3 u4 u5 u6 u7 C H hH hP hs) (Bl hH)
theorem OD(s:Vs.State)(u1 u2 u3 u4 u5 u6 u7:V1)(C:Nat→Int)(H:HP)(hH:H.wr=false)(hP:lg H s.table.aL C)(hs:AQ s)(hl:(aZ.enc s).length≤140737488355328):
  aq auN 13 [.agg (jS s u1.v u2.v u3.v u4.v u5.v u6.v u7.v).toArray] (ef false s C u1.v u2.v u3.v u4.v u5.v u6.v u7.v++[H]) fun r hs=> ∃o:V1,r=o.v∧hs=ef false s C u1.v u2.v u3.v u4.v u5.v u6.v u7.v++[H]++[aR true o.v (aZ.enc s)]:=by
 refine aq.post (aq.JO (uD s u1 u2 u3 u4 u5 u6 u7 C H hH hP hs hl) (Bl hH)) ?_;rintro r hs ⟨nw,rfl,o,rfl,rfl⟩;exact⟨_,bI.refl _,o,rfl,rfl⟩
theorem Hx(v:Value)(hv:v.oneCell'=true)(l:List Nat)(h: ∀x∈l,x<256)(hn:l.length<256^4)(B:List HP)(hB:bc B (aR false v l)):aq auN 14 [v] B fun r hs=> ∃o:V1,r=o.v∧hs=B++[aR true o.v (cy l)]:=by
 have h0:aq auN 14 [v] ([]++[aR false v l]) fun r hs=> ∃o:V1,r=o.v∧hs=[aR true o.v (cy l)]:=yz ⟨v,hv⟩ l h hn
 refine aq.post (aq.Co (B:=B) h0 ?_ ?_) ?_
 ·rintro _ hs ⟨o,_,rfl⟩ x hx;rw [auz.1 hx];rfl
 ·intro x hx;rw [auz.1 hx];exact hB
 ·rintro r hs ⟨yS,⟨o,rfl,rfl⟩,rfl⟩;exact⟨_,bI.perm List.perm_append_comm,o,rfl,rfl⟩
def Lu(x b:Nat):Nat:=(ar .cz .u8 (x:Int) (ar .shl .u8 1 (ar .rem .u8 (b:Int) 8))).toNat
theorem W4(x b:Nat):ar .cz .u8 (x:Int) (ar .shl .u8 1 (ar .rem .u8 (b:Int) 8))=((Lu x b:Nat):Int)∧Lu x b<256:=by
 obtain⟨z,hz⟩: ∃z,z=ar .cz .u8 (x:Int) (ar .shl .u8 1 (ar .rem .u8 (b:Int) 8)):=⟨_,rfl⟩;have h:0≤z∧z<256:=by
  rw [hz];show 0≤ae .u8 ((_:Nat):Int)∧ae .u8 ((_:Nat):Int)<256;rw [w8];omega
 unfold Lu;rw [←hz];omega
structure afm (s:Vs.State) (most cM:Int):Prop where
 a:si s
 may:kf s most cM=true→most=(s.table.most:Int)∧cM=(s.call.fQ:Int) - 1∧aZ.ok s
 b:fL (aZ.enc s)
 n:nN s≤9223372036854775807
 few:nN s≤60000→(aZ.enc s).length≤4194285
set_option maxRecDepth 100000 in
set_option maxHeartbeats 8000000 in
theorem J0(s:Vs.State)(most cM:Int)(u1 u2 u3 u4 u5 u6 u7:V1)(C:Nat→Int)(H:HP)(hH:H.wr=false)(hP:lg H s.table.aL C)(hi:afm s most cM)(at_:Int)(bit:Nat)(Bm:Bool):
  aq auN 6 [.agg (jY s most cM u1.v u2.v u3.v u4.v u5.v u6.v u7.v).toArray,.int .i64 at_,.int .u8 (bit:Int),.bool Bm] (ef false s C u1.v u2.v u3.v u4.v u5.v u6.v u7.v++[H]) fun r _=>r= .bool true:=by
 refine VX (fun r _=>r= .bool true) (s.drawn:Int) (s.table.keys.dev.a:Int) (s.table.keys.dev.d:Int) most (s.call.me.a:Int) (s.call.me.d:Int) (s.call.state:Int) (bi s.call.out) (s.call.aP:Int) (s.call.peer.a:Int) (s.call.peer.d:Int) cM (s.call.eO:Int) (s.call.bV:Int) (s.call.since:Int) (s.call.heard:Int) (s.call.mC:Int) (s.call.hZ:Int) (s.table.keys.once.length:Int) (s.table.aL.length:Int) (s.call.dead.length:Int) (s.call.marks.length:Int) (s.call.early.length:Int) (s.log.length:Int) (s.aH.length:Int) at_ (bit:Int) (aI s.mD) (aI s.table.keys.ident) (aI s.table.keys.signed) (aI s.call.dv) (aI s.call.id) (aI s.call.own) (aI s.call.dx) (aI s.call.gY) (bN cV.id s.table.keys.once) (cq cV.cP s.table.keys.once) (bN (fun p:ez=>p.dev.a) s.table.aL) (bN (fun p:ez=>p.dev.d) s.table.aL) C (cq (fun x=>x) s.call.dead) (aI s.call.marks) (bN jl.a s.call.early) (bN jl.d s.call.early) (aI s.log) (cq Room.id s.aH) (bN Room.aP s.aH) (er Room.out s.aH) (bN Room.since s.aH) Bm u1 u2 u3 u4 u5 u6 u7 H ?_;unfold K1;intro b0;refine⟨_,Hv,?_⟩;rintro x hs ⟨rfl,rfl⟩;refine⟨rfl,rfl,?_⟩;have Yd:=fun h=>zF (hi.may h).2.2
 refine⟨_,S6 s most cM u1 u2 u3 u4 u5 u6 u7 C H hH hP hi.a (fun h=>⟨(hi.may h).1,(hi.may h).2.1,Yd h⟩) hi.b,?_⟩;rintro x hs ⟨w,rfl,rfl⟩;refine⟨w,mH s most cM,((je s most cM).length:Int),aI (je s most cM),rfl,rfl,?_⟩;refine⟨_,JZ s most cM u1 u2 u3 u4 u5 u6 u7 C H hH hP hi.a,?_⟩;rintro x hs ⟨rfl,rfl⟩;refine⟨_,rfl,rfl,⟨fun _=>rfl,fun hc=>?_⟩⟩;have hhv: ¬60000<ae .i64 (nN s:Int):=fun h=>hc (.inl (.inl (by rw [decide_eq_true h])))
 have lY:mH s most cM=0:=Classical.byContradiction fun h=>hc (.inl (.inr h))
 have dH:0≤at_:=by
  have: ¬at_<0:=fun h=>hc (.inr h)
  omega
 have jT:kf s most cM=true:=by
  cases h:kf s most cM with
  | true=>rfl
  | false=>
   unfold mH at lY;rw [if_neg (by rw [h];simp)]at lY;cases lY
 rw [Lt _ (by omega) (by have:=hi.n;omega)]at hhv;have hlen:=hi.few (by omega);obtain⟨rfl,rfl,iz⟩:=hi.may jT;have qH:=Yd jT;have afn:je s (s.table.most:Int) ((s.call.fQ:Int) - 1)=cy (aZ.enc s):=by
  unfold je;rw [if_pos lY]
 rw [afn];obtain⟨L,hL⟩: ∃L,L=cy (aZ.enc s):=⟨_,rfl⟩;rw [←hL];have hLn:L.length=(aZ.enc s).length+18:=by
  rw [hL,cy,aum,cA,List.length_take,cm];omega
 have hLl: ∀x∈L,x<256:=by
  rw [hL];exact Bj hi.b.b
 have hLo:fL L:=⟨hLl,by omega⟩;have hT:gK L=some s:=by
  rw [hL];exact Bi iz (by omega) jT
 have eS:aD L=s:=by unfold aD;rw [hT];rfl
 have eE:jD L=0:=by unfold jD;rw [if_neg (by rw [hT];simp)]
 have tk:=uE w L hLo [aR true w.v L] bc.own;rw [eS,eE]at tk;refine⟨_,tk,?_⟩;rintro x hs ⟨t1,t2,t3,t4,t5,t6,t7,C2,H2,rfl,rfl,hH2,hP2⟩;refine⟨t1,t2,t3,t4,t5,t6,t7,(s.drawn:Int),(s.table.keys.dev.a:Int),(s.table.keys.dev.d:Int),(s.table.most:Int),(s.call.me.a:Int),(s.call.me.d:Int),(s.call.state:Int),bi s.call.out,(s.call.aP:Int),(s.call.peer.a:Int),(s.call.peer.d:Int),((s.call.fQ:Int) - 1),(s.call.eO:Int),(s.call.bV:Int),(s.call.since:Int),(s.call.heard:Int),(s.call.mC:Int),(s.call.hZ:Int),(s.table.keys.once.length:Int),(s.table.aL.length:Int),(s.call.dead.length:Int),(s.call.marks.length:Int),(s.call.early.length:Int),(s.log.length:Int),(s.aH.length:Int),0,aI s.mD,aI s.table.keys.ident,aI s.table.keys.signed,aI s.call.dv,aI s.call.id,aI s.call.own,aI s.call.dx,aI s.call.gY,bN cV.id s.table.keys.once,cq cV.cP s.table.keys.once,bN (fun p:ez=>p.dev.a) s.table.aL,bN (fun p:ez=>p.dev.d) s.table.aL,C2,cq (fun x=>x) s.call.dead,aI s.call.marks,bN jl.a s.call.early,bN jl.d s.call.early,aI s.log,cq Room.id s.aH,bN Room.aP s.aH,er Room.out s.aH,bN Room.since s.aH,H2,rfl,rfl,fun _=>⟨fun _=>?_,fun h=>absurd rfl h⟩⟩;refine⟨_,Bh s t1 t2 t3 t4 t5 t6 t7 C2 H2 hP2 qH (by omega),?_⟩;rintro x hs ⟨b,rfl,rfl⟩;refine⟨b,((aZ.enc s).length:Int),aI (aZ.enc s),rfl,rfl,?_⟩;rw [if_pos (by rfl)];refine⟨_,OD s u1 u2 u3 u4 u5 u6 u7 C H hH hP qH (by omega),?_⟩;rintro x hs ⟨b',rfl,rfl⟩;refine⟨b',((aZ.enc s).length:Int),aI (aZ.enc s),rfl,rfl,⟨fun h=>absurd rfl h,fun _=>?_⟩⟩;obtain⟨i,hI⟩: ∃i:Nat,ar .rem .i64 at_ (L.length:Int)=(i:Int)∧i<L.length:=by
  refine⟨at_.toNat%L.length,?_,Nat.mod_lt _ (by omega)⟩;show at_.tmod (L.length:Int)=_;rw [Int.tmod_eq_emod_of_nonneg dH,Int.natCast_emod,Int.toNat_of_nonneg dH]
 obtain⟨hI1,Pm⟩:=hI;rw [hI1];obtain⟨hf1,Oa⟩:=W4 L[i] bit;rw [auD,gj Pm,hf1];obtain⟨f,hf⟩: ∃f,f=Lu L[i] bit:=⟨_,rfl⟩;rw [←hf]at Oa ⊢;have afo:cj (aw (aI L) i (f:Int)) (L.set i f):=by
  intro j hj;rw [List.length_set]at hj;rw [gj (by rw [List.length_set];exact hj),List.getElem_set];unfold aw;by_cases Fq:j=i
  ·rw [if_pos Fq,if_pos Fq.symm]
  ·rw [if_neg Fq,if_neg (fun h=>Fq h.symm),gj hj]
 have Yf:(L.set i f).length=L.length:=List.length_set;have Ew:fL (L.set i f):=⟨fun x hx=>by
  rcases au1 hx with hx | rfl
  ·exact hLl x hx
  ·exact Oa,by omega⟩
 obtain⟨bad,hbd⟩: ∃bad,bad=L.set i f:=⟨_,rfl⟩;rw [←hbd]at afo Yf Ew;refine⟨Int.natCast_nonneg _,fun _=>⟨by omega,fun _ pQ=>⟨by omega,fun _ mJ=>⟨Int.natCast_nonneg _,fun _=>⟨by omega,fun _=>⟨?_,fun _=>⟨by omega,fun _=>?_⟩⟩⟩⟩⟩⟩⟩
 ·show 0≤(bit:Int).tmod 8;rw [Int.tmod_eq_emod_of_nonneg (by omega)];omega
 have n1:=uF (aF 1 w.v 0 i none) (bR _ _ _ _ _) (aT L 0 i) (sq hLo) (by rw [c_ (Nat.zero_le _) (by omega)];omega) [aR true w.v L] (lO bc.own (Nat.zero_le _) (by omega));refine⟨_,n1,?_⟩;rintro x hs ⟨rfl,rfl⟩;refine⟨true,rfl,rfl,⟨fun _=>?_,fun h=>absurd rfl h⟩⟩;intro tg v20 b2;refine⟨by omega,fun _ Ct=>?_⟩;have afp:cj (aw (aI L) L.length 0) (L++[0]):=cj.nm cj.rfl rfl rfl;have abn:fL (L++[0]):=⟨fun x hx=>by
  rcases auE.1 hx with hx | hx
  ·exact hLl x hx
  ·rw [auz.1 hx];decide,by rw [aum];simp;omega⟩
 have n2:=uF Ct.v Ct.one (L++[0]) abn (by rw [aum];simp;omega) [aR true Ct.v (L++[0])] bc.own;have e2:bq Ct ((L.length:Int)+1) (aw (aI L) (ag (L.length:Int)) 0)=aR true Ct.v (L++[0]):=by
  have e3:ag ((L.length:Int)+1)=(L++[0]).length:=by rw [aum,aun];omega
  show aB true 5 1 Ct.v (ag ((L.length:Int)+1)) (aM (ag ((L.length:Int)+1)) [ay .u8 1 (aw (aI L) L.length 0)])=_;rw [e3,afp.xi]
 rw [e2];refine⟨_,n2,?_⟩;rintro x hs ⟨rfl,rfl⟩;refine⟨true,rfl,rfl,⟨fun _=>?_,fun h=>absurd rfl h⟩⟩;have e4:bq mJ (L.length:Int) (aw (aI L) i (f:Int))=aR true mJ.v bad:=by
  show aB true 5 1 mJ.v L.length (aM L.length [ay .u8 1 (aw (aI L) i (f:Int))])=_;rw [←Yf,afo.xi]
 rw [e4];have n3:=uF mJ.v mJ.one bad Ew (by omega) [aR true mJ.v bad] bc.own;refine⟨_,n3,?_⟩;rintro x hs ⟨rfl,rfl⟩;refine⟨true,rfl,rfl,⟨fun h=>absurd rfl h,fun _=>?_⟩⟩;refine⟨.inr (Int.natCast_nonneg _),fun _=>⟨.inr (by omega),fun _=>⟨.inr (by omega),fun _=>⟨fun _=>rfl,fun hc2=>?_⟩⟩⟩⟩;have h10:10≤i:=by
  have: ¬((i:Int)<10):=fun h=>hc2 (.inl (.inr h))
  omega
 have h8:i<L.length - 8:=by
  have: ¬((L.length:Int) - 8≤(i:Int)):=fun h=>hc2 (.inr h)
  omega
 iterate 4 refine⟨by omega,fun _=>?_⟩
 have e5:ag ((L.length:Int) - 8)=bad.length - 8:=by omega
 rw [e5];obtain⟨m,hm⟩: ∃m,m=aT bad 10 (bad.length - 8):=⟨_,rfl⟩;have hml:m.length=bad.length - 8 - 10:=by rw [hm];exact c_ (by omega) (by omega)
 have hmb: ∀x∈m,x<256:=by rw [hm];exact nM Ew.b
 refine⟨_,Hx (aF 1 mJ.v 10 (bad.length - 8) none) (bR _ _ _ _ _) m hmb (by rw [show(256^4:Nat)=4294967296 by decide];omega) [aR true mJ.v bad] (by rw [hm];exact lO bc.own (by omega) (by omega)),?_⟩;rintro x hs ⟨o,rfl,rfl⟩;obtain⟨M,hM⟩: ∃M,M=cy m:=⟨_,rfl⟩;have hMl:M.length=m.length+18:=by
  rw [hM,cy,aum,cA,List.length_take,cm];omega
 have hMo:fL M:=⟨by rw [hM];exact Bj hmb,by omega⟩;refine⟨o,((cy m).length:Int),aI (cy m),rfl,rfl,?_⟩;rw [←hM];refine⟨_,uE o M hMo [aR true o.v M] bc.own,?_⟩;rintro x hs ⟨y1,y2,y3,y4,y5,y6,y7,C3,H3,rfl,rfl,hH3,hP3⟩;refine⟨y1,y2,y3,y4,y5,y6,y7,((aD M).drawn:Int),((aD M).table.keys.dev.a:Int),((aD M).table.keys.dev.d:Int),((aD M).table.most:Int),((aD M).call.me.a:Int),((aD M).call.me.d:Int),((aD M).call.state:Int),bi (aD M).call.out,((aD M).call.aP:Int),((aD M).call.peer.a:Int),((aD M).call.peer.d:Int),(((aD M).call.fQ:Int) - 1),((aD M).call.eO:Int),((aD M).call.bV:Int),((aD M).call.since:Int),((aD M).call.heard:Int),((aD M).call.mC:Int),((aD M).call.hZ:Int),((aD M).table.keys.once.length:Int),((aD M).table.aL.length:Int),((aD M).call.dead.length:Int),((aD M).call.marks.length:Int),((aD M).call.early.length:Int),((aD M).log.length:Int),((aD M).aH.length:Int),jD M,aI (aD M).mD,aI (aD M).table.keys.ident,aI (aD M).table.keys.signed,aI (aD M).call.dv,aI (aD M).call.id,aI (aD M).call.own,aI (aD M).call.dx,aI (aD M).call.gY,bN cV.id (aD M).table.keys.once,cq cV.cP (aD M).table.keys.once,bN (fun p:ez=>p.dev.a) (aD M).table.aL,bN (fun p:ez=>p.dev.d) (aD M).table.aL,C3,cq (fun x=>x) (aD M).call.dead,aI (aD M).call.marks,bN jl.a (aD M).call.early,bN jl.d (aD M).call.early,aI (aD M).log,cq Room.id (aD M).aH,bN Room.aP (aD M).aH,er Room.out (aD M).aH,bN Room.since (aD M).aH,H3,rfl,rfl,fun _=>⟨fun fy=>?_,fun he0=>?_⟩⟩
 ·have:jD M=9:=by
   unfold jD at fy ⊢;by_cases hx:gK M=none
   ·rw [if_pos hx,if_neg (by omega)]
   ·rw [if_neg hx]at fy;exact absurd rfl fy
  rw [this];rfl
 cases hx:gK M with
 | none=>
  refine absurd ?_ he0;unfold jD;rw [if_pos hx,if_neg (by omega)];decide
 | some S=>
  have eS2:aD M=S:=by unfold aD;rw [hx];rfl
  rw [eS2]at hP3 ⊢;obtain⟨h0,h1,h2,h3,h4,h5⟩:=yw hMo.b hx;have hb:fL (aZ.enc S):=by rw [←h3];exact sq hMo
  have eP:mH S (S.table.most:Int) ((S.call.fQ:Int) - 1)=0:=by
   unfold mH;rw [if_pos h4,if_neg];rw [←h3,c_ (by omega) (by omega)];omega
  have eL:je S (S.table.most:Int) ((S.call.fQ:Int) - 1)=M:=by
   unfold je;rw [if_pos eP];exact h1.symm
  have put:=EH S (S.table.most:Int) ((S.call.fQ:Int) - 1) y1 y2 y3 y4 y5 y6 y7 C3 H3 hP3 (pI h2 hb) (fun _=>⟨rfl,rfl,h2⟩) hb;rw [eP,eL]at put;refine⟨_,put,?_⟩;rintro x hs ⟨z,rfl,rfl⟩;refine⟨z,0,(M.length:Int),aI M,rfl,rfl,?_⟩;exact congrArg Value.bool (by rw [beq_self_eq_true (dC _)];rfl)
open Go Go.RX Go.Proofs Go.Vs
open Go.Proofs.YtllcdnkfbeokhaaGreat
section
variable {w:World}
noncomputable def oK:qZ w 23 (List Nat):=AH 32 Tryz.underlying23 (by kernel_rfl)
noncomputable def oI:qZ w 36 (List Nat):=AH 16 Tryz.underlying36 (by kernel_rfl)
noncomputable def o8s:qZ w 33 (List Nat):=AH 8 Tryz.underlying33 (by kernel_rfl)
noncomputable def o8:qZ w 5 Nat:=Zd .u8 1 Tryz.underlying5 (by kernel_rfl) (by decide)
noncomputable def S7:qZ w 39 Nat:=Zd .u32 4 Tryz.underlying39 (by kernel_rfl) (by decide)
noncomputable def Lv:qZ w 24 Nat:=Zd .u64 8 Tryz.underlying24 (by kernel_rfl) (by decide)
noncomputable def oi:qZ w 3 Int:=Zc .i64 Tryz.underlying3 (by kernel_rfl)
noncomputable def oB:qZ w 4 Bool:=U_ Tryz.underlying4 (by kernel_rfl)
noncomputable def oBy:qZ w 37 (V1×List Nat):=mg o8 Tryz.underlying37 (by kernel_rfl) rfl
abbrev Bn:=Nat×Nat×Unit
noncomputable def wm:qZ w 26 Bn:=fB Tryz.underlying26 (aY o8 (aY o8 lM)) (by kernel_rfl) (by kernel_rfl)
abbrev Dn:=Nat×List Nat×Unit
noncomputable def Hy:qZ w 93 Dn:=fB Tryz.underlying93 (aY S7 (aY oK lM)) (by kernel_rfl) (by kernel_rfl)
abbrev Bo:=List Nat×Nat×List Nat×Unit
noncomputable def Bp:qZ w 245 Bo:=fB Tryz.underlying245 (aY oK (aY S7 (aY oK lM))) (by kernel_rfl) (by kernel_rfl)
abbrev Bq:=List Nat×Nat×Unit
noncomputable def Br:qZ w 70 Bq:=fB Tryz.underlying70 (aY oK (aY S7 lM)) (by kernel_rfl) (by kernel_rfl)
noncomputable def EJ:qZ w 71 (V1×List Bo):=mg Bp Tryz.underlying71 (by kernel_rfl) rfl
abbrev Lw:=List Nat×List Nat×List Nat×List Nat×Bool×Bool×Bool×Bool×Bq×Bq×Nat×(V1×List Bo)×Unit
noncomputable def S8:qZ w 73 Lw:=fB Tryz.underlying73 (aY oK (aY oK (aY oK (aY oK (aY oB (aY oB (aY oB (aY oB (aY Br (aY Br (aY S7 (aY EJ lM)))))))))))) (by kernel_rfl) (by kernel_rfl)
abbrev abo:=List Nat×List Nat×Bool×Nat×Unit
noncomputable def abp:qZ w 75 abo:=fB Tryz.underlying75 (aY oK (aY oK (aY oB (aY S7 lM)))) (by kernel_rfl) (by kernel_rfl)
abbrev CA:=Lw×abo×Bool×Bool×Unit
noncomputable def CB:qZ w 77 CA:=fB Tryz.underlying77 (aY S8 (aY abp (aY oB (aY oB lM)))) (by kernel_rfl) (by kernel_rfl)
noncomputable def Lx:qZ w 66 (V1×List CA):=mg CB Tryz.underlying66 (by kernel_rfl) rfl
abbrev tJ:=Bn×(V1×List CA)×Unit
noncomputable def tK:qZ w 68 tJ:=fB Tryz.underlying68 (aY wm (aY Lx lM)) (by kernel_rfl) (by kernel_rfl)
noncomputable def EK:qZ w 30 (V1×List tJ):=mg tK Tryz.underlying30 (by kernel_rfl) rfl
noncomputable def EL:qZ w 27 (V1×List Dn):=mg Hy Tryz.underlying27 (by kernel_rfl) rfl
abbrev Ly:=Bn×List Nat×List Nat×(V1×List Dn)×Unit
noncomputable def S9:qZ w 29 Ly:=fB Tryz.underlying29 (aY wm (aY oK (aY oK (aY EL lM)))) (by kernel_rfl) (by kernel_rfl)
abbrev W5:=Ly×Int×(V1×List tJ)×Unit
noncomputable def abq:qZ w 32 W5:=fB Tryz.underlying32 (aY S9 (aY oi (aY EK lM))) (by kernel_rfl) (by kernel_rfl)
noncomputable def W6:qZ w 34 (V1×List (List Nat)):=mg oI Tryz.underlying34 (by kernel_rfl) rfl
noncomputable def Lz:qZ w 38 (V1×List Bn):=mg wm Tryz.underlying38 (by kernel_rfl) rfl
abbrev LA:=Bn×List Nat×(V1×List (List Nat))×Nat×List Nat×Bool×Nat×Bn×List Nat×List Nat×List Nat×(V1×List Nat)×Int×(V1×List Bn)×Nat×Nat×Nat×Nat×Nat×Nat×Unit
noncomputable def S_:qZ w 41 LA:=fB Tryz.underlying41 (aY wm (aY o8s (aY W6 (aY o8 (aY oI (aY oB (aY o8 (aY wm (aY oK (aY oK (aY oK (aY oBy (aY oi (aY Lz (aY Lv (aY Lv (aY Lv (aY Lv (aY Lv (aY S7 lM)))))))))))))))))))) (by kernel_rfl) (by kernel_rfl)
abbrev Dp:=List Nat×Nat×Bool×Nat×Unit
noncomputable def Hz:qZ w 98 Dp:=fB Tryz.underlying98 (aY oI (aY o8 (aY oB (aY Lv lM)))) (by kernel_rfl) (by kernel_rfl)
noncomputable def EM:qZ w 42 (V1×List Dp):=mg Hz Tryz.underlying42 (by kernel_rfl) rfl
abbrev iW:=List Nat×Nat×W5×LA×(V1×List Nat)×(V1×List Dp)×Unit
noncomputable def kg:qZ w 44 iW:=fB Tryz.underlying44 (aY oK (aY Lv (aY abq (aY S_ (aY oBy (aY EM lM)))))) (by kernel_rfl) (by kernel_rfl)
end
open Go Go.RX Go.Proofs Go.Vs
abbrev yA(p:Bn):jl:=⟨p.1,p.2.1⟩
abbrev Bs(p:Dn):cV:=⟨p.1,p.2.1⟩
abbrev nO(p:Bo):gX:=⟨p.1,p.2.1,p.2.2.1⟩
abbrev LB(p:Bq):KP:=⟨p.1,p.2.1⟩
abbrev CC(p:CA):V1×List Bo:=p.1.2.2.2.2.2.2.2.2.2.2.2.1
abbrev abr(p:Lw):Y3:=⟨p.1,p.2.1,p.2.2.1,p.2.2.2.1,p.2.2.2.2.1,p.2.2.2.2.2.1,p.2.2.2.2.2.2.1,p.2.2.2.2.2.2.2.1,LB p.2.2.2.2.2.2.2.2.1,LB p.2.2.2.2.2.2.2.2.2.1,p.2.2.2.2.2.2.2.2.2.2.1,p.2.2.2.2.2.2.2.2.2.2.2.1.2.map nO⟩
abbrev fK(p:CA):cf:=⟨abr p.1,p.2.1.1,p.2.1.2.1,p.2.1.2.2.1,p.2.1.2.2.2.1,p.2.2.1,p.2.2.2.1⟩
abbrev jH(p:tJ):ez:=⟨yA p.1,p.2.1.2.map fK⟩
abbrev ss(p:Dp):Room:=⟨p.1,p.2.1,p.2.2.1,p.2.2.2.1⟩
section
variable {α:Type}
theorem pK(g:α→List Nat)(n:Nat)(s:List α)(hs: ∀x∈s,(g x).length=n)(i:Nat)(h:i<s.length):ay .u8 n (cq g s) i=aj .u8 n (aI (g s[i])):=by
 unfold ay aj;refine List.map_congr_left fun j hj=>?_
 show Value.int .u8 (aI (s.flatMap g) (i*n+j))=_;rw [lT g n s hs i j h (auG.1 hj)]
theorem qR(k:IntKind)(g:α→Nat)(s:List α)(i:Nat)(h:i<s.length):ay k 1 (bN g s) i=[.int k ((g s[i]:Nat):Int)]:=by
 show [Value.int k (bN g s (i*1+0))]=_;rw [show i*1+0=i by omega,jG g s i h]
theorem yB(g:α→Bool)(s:List α)(i:Nat)(h:i<s.length):cY 1 (er g s) i=[.bool (g s[i])]:=by
 show [Value.bool (!(er g s (i*1+0)==0))]=_;rw [show i*1+0=i by omega,mF g s i h,vO]
theorem Yg(C:Nat→Int)(i:Nat):eA 1 (fun j=>cc (C j)) i=[cc (C i)]:=by
 show [cc (C (i*1+0))]=_;rw [show i*1+0=i by omega]
theorem su(f:α→List Value)(aA:List (Nat→List Value))(l:List α)(h: ∀(i:Nat) (hi:i<l.length),f l[i]=aA.flatMap fun c=>c i):l.flatMap f=aM l.length aA:=by
 cases l with
 | nil=>rfl
 | cons x0 l0=>
  rw [AI f _ x0];unfold aM;rw [List.flatMap_def,List.flatMap_def];congr 1;refine List.map_congr_left fun i hi=>?_
  have hi:=auG.1 hi;rw [←h i hi,auO,auU hi];rfl
end
variable {w:World}
theorem oA{t s n n':Nat}{v:Value}{cs ra:List Value}(h:GN w (aB false t s v n cs))(hn:n=n')(hc:cs=ra):GN w (aB false t s v n' ra):=by
 subst hn;subst hc;exact h
theorem LD{t s n:Nat}{v:Value}{cs:List Value}(h:GN w (aB false t s v n cs)): ∃c:Int,v=cc c:=by
 obtain⟨S,⟨h1,_⟩,_⟩:=h;simp only [Bool.false_eq_true,if_false]at h1;obtain⟨_,a,m,c,rfl,_⟩:=h1;exact PJ a m c
theorem Bt{h:HP}(hi:GN w h)(hw:h.wr=false):gZ (pW w.heap.size w) h:=by
 obtain⟨S',hp,hk⟩:=hi;refine⟨hw,fun w' S hS=>⟨S',fun k hs=>(hS.1 k).2 (hk k hs),?_⟩⟩;exact HP.fh _ w w' S' hp fun k hs=>hS.2 k (hk k hs)
theorem HB{p:V1×List Nat}(h:(oBy (w:=w)).ok p):GN w (aR false p.1.v p.2):=by
 refine oA h.2 rfl (su (fun n:Nat=>[.int .u8 (n:Int)]) [ay .u8 1 (aI p.2)] p.2 fun i hi=>?_);show _=ay .u8 1 (aI p.2) i++[];rw [List.append_nil];show _=[Value.int .u8 (aI p.2 (i*1+0))];rw [show i*1+0=i by omega,gj hi]
theorem W7{p:V1×List Dn}(h:(EL (w:=w)).ok p):GN w (Cv false p.1.v (p.2.map Bs)):=by
 have hk: ∀x∈p.2.map Bs,x.cP.length=32:=fun x hx=>by
  obtain⟨y,hy,rfl⟩:=auL.1 hx;exact(h.1 y hy).2.1.1
 refine oA h.2 (by rw [auJ]) ((su (Hy (w:=w)).cells _ p.2 fun i hi=>?_).trans (by rw [auJ]));show [Value.int .u32 _]++(aj .u8 32 _++[])=ay .u32 1 (bN cV.id (p.2.map Bs)) i++(ay .u8 32 (cq cV.cP (p.2.map Bs)) i++[]);rw [qR _ _ _ i (by rw [auJ];exact hi),pK _ 32 _ hk i (by rw [auJ];exact hi),List.getElem_map]
theorem abt{p:V1×List (List Nat)}(h:(W6 (w:=w)).ok p):GN w (AS false p.1.v p.2):=by
 refine oA h.2 rfl (su (oI (w:=w)).cells _ p.2 fun i hi=>?_);show aj .u8 16 _=ay .u8 16 (cq (fun x=>x) p.2) i++[];rw [pK _ 16 _ (fun x hx=>(h.1 x hx).1) i hi,List.append_nil]
theorem W8{p:V1×List Bn}(h:(Lz (w:=w)).ok p):GN w (AT false p.1.v (p.2.map yA)):=by
 refine oA h.2 (by rw [auJ]) ((su (wm (w:=w)).cells _ p.2 fun i hi=>?_).trans (by rw [auJ]));show [Value.int .u8 _]++([Value.int .u8 _]++[])=ay .u8 1 (bN jl.a (p.2.map yA)) i++(ay .u8 1 (bN jl.d (p.2.map yA)) i++[]);rw [qR _ _ _ i (by rw [auJ];exact hi),qR _ _ _ i (by rw [auJ];exact hi),List.getElem_map]
theorem Ta{p:V1×List Dp}(h:(EM (w:=w)).ok p):GN w (tH false p.1.v (p.2.map ss)):=by
 have hk: ∀x∈p.2.map ss,x.id.length=16:=fun x hx=>by
  obtain⟨y,hy,rfl⟩:=auL.1 hx;exact(h.1 y hy).1.1
 refine oA h.2 (by rw [auJ]) ((su (Hz (w:=w)).cells _ p.2 fun i hi=>?_).trans (by rw [auJ]));show aj .u8 16 _++([Value.int .u8 _]++([Value.bool _]++([Value.int .u64 _]++[])))=ay .u8 16 (cq Room.id (p.2.map ss)) i++(ay .u8 1 (bN Room.aP (p.2.map ss)) i++(cY 1 (er Room.out (p.2.map ss)) i++(ay .u64 1 (bN Room.since (p.2.map ss)) i++[])));have cD:i<(p.2.map ss).length:=by rw [auJ];exact hi
 rw [pK _ 16 _ hk i cD,qR _ _ _ i cD,yB _ _ i cD,qR _ _ _ i cD,List.getElem_map]
theorem HC{p:V1×List Bo}(h:(EJ (w:=w)).ok p):GN w (pF false p.1.v (p.2.map nO)):=by
 have h1: ∀x∈p.2.map nO,x.dh.length=32:=fun x hx=>by
  obtain⟨y,hy,rfl⟩:=auL.1 hx;exact(h.1 y hy).1.1
 have h2: ∀x∈p.2.map nO,x.msg.length=32:=fun x hx=>by
  obtain⟨y,hy,rfl⟩:=auL.1 hx;exact(h.1 y hy).2.2.1.1
 refine oA h.2 (by rw [auJ]) ((su (Bp (w:=w)).cells _ p.2 fun i hi=>?_).trans (by rw [auJ]));show aj .u8 32 _++([Value.int .u32 _]++(aj .u8 32 _++[]))=ay .u8 32 (cq gX.dh (p.2.map nO)) i++(ay .u32 1 (bN gX.n (p.2.map nO)) i++(ay .u8 32 (cq gX.msg (p.2.map nO)) i++[]));have cD:i<(p.2.map nO).length:=by rw [auJ];exact hi
 rw [pK _ 32 _ h1 i cD,qR _ _ _ i cD,pK _ 32 _ h2 i cD,List.getElem_map]
set_option maxHeartbeats 2000000 in
theorem LF{p:V1×List CA}(h:(Lx (w:=w)).ok p): ∃D:Nat→Int,GN w (eX false p.1.v (p.2.map fK) D)∧∀(i:Nat) (hi:i<p.2.length),GN w (pF false (cc (D i)) ((CC p.2[i]).2.map nO)):=by
 have key: ∀i,∃c:Int,∀hi:i<p.2.length,(CC p.2[i]).1.v=cc c:=by
  intro i;by_cases hi:i<p.2.length
  ·obtain⟨c,hc⟩:=LD (HC (h.1 _ (List.getElem_mem hi)).1.2.2.2.2.2.2.2.2.2.2.2.1);exact⟨c,fun _=>hc⟩
  ·exact⟨0,fun h=>absurd h hi⟩
 obtain⟨D,hD⟩:=Classical.axiomOfChoice key;have mem: ∀(g:cf→List Nat) (n:Nat),(∀y∈p.2,(g (fK y)).length=n)→∀x∈p.2.map fK,(g x).length=n:=fun g n hg x hx=>by
  obtain⟨y,hy,rfl⟩:=auL.1 hx;exact hg y hy
 refine⟨D,oA h.2 (by rw [auJ]) ((su (CB (w:=w)).cells _ p.2 fun i hi=>?_).trans (by rw [auJ])),fun i hi=>?_⟩
 ·have cD:i<(p.2.map fK).length:=by rw [auJ];exact hi
  show((aj .u8 32 _++(aj .u8 32 _++(aj .u8 32 _++(aj .u8 32 _++([Value.bool _]++([Value.bool _]++([Value.bool _]++([Value.bool _]++((aj .u8 32 _++([Value.int .u32 _]++[]))++((aj .u8 32 _++([Value.int .u32 _]++[]))++([Value.int .u32 _]++([(CC p.2[i]).1.v]++[]))))))))))))++((aj .u8 32 _++(aj .u8 32 _++([Value.bool _]++([Value.int .u32 _]++[]))))++([Value.bool _]++([Value.bool _]++[]))))=
   ay .u8 32 (cq (·.s.root) (p.2.map fK)) i++(ay .u8 32 (cq (·.s.bind) (p.2.map fK)) i++(ay .u8 32 (cq (·.s.own) (p.2.map fK)) i++(ay .u8 32 (cq (·.s.ej) (p.2.map fK)) i++(cY 1 (er (·.s.jO) (p.2.map fK)) i++(cY 1 (er (·.s.jP) (p.2.map fK)) i++(cY 1 (er (·.s.jQ) (p.2.map fK)) i++(cY 1 (er (·.s.eD) (p.2.map fK)) i++(ay .u8 32 (cq (·.s.send.key) (p.2.map fK)) i++(ay .u32 1 (bN (·.s.send.n) (p.2.map fK)) i++(ay .u8 32 (cq (·.s.recv.key) (p.2.map fK)) i++(ay .u32 1 (bN (·.s.recv.n) (p.2.map fK)) i++(ay .u32 1 (bN (·.s.prev) (p.2.map fK)) i++(eA 1 (fun j=>cc (D j)) i++(ay .u8 32 (cq (·.ident) (p.2.map fK)) i++(ay .u8 32 (cq (·.ux) (p.2.map fK)) i++(cY 1 (er (·.ek) (p.2.map fK)) i++(ay .u32 1 (bN (·.eW) (p.2.map fK)) i++(cY 1 (er (·.own) (p.2.map fK)) i++(cY 1 (er (·.current) (p.2.map fK)) i++[])))))))))))))))))))
  rw [pK _ 32 _ (mem (·.s.root) 32 fun y hy=>(h.1 y hy).1.1.1) i cD,pK _ 32 _ (mem (·.s.bind) 32 fun y hy=>(h.1 y hy).1.2.1.1) i cD,pK _ 32 _ (mem (·.s.own) 32 fun y hy=>(h.1 y hy).1.2.2.1.1) i cD,pK _ 32 _ (mem (·.s.ej) 32 fun y hy=>(h.1 y hy).1.2.2.2.1.1) i cD,
   yB _ _ i cD,yB _ _ i cD,yB _ _ i cD,yB _ _ i cD,pK _ 32 _ (mem (·.s.send.key) 32 fun y hy=>(h.1 y hy).1.2.2.2.2.2.2.2.2.1.1.1) i cD,qR _ _ _ i cD,pK _ 32 _ (mem (·.s.recv.key) 32 fun y hy=>(h.1 y hy).1.2.2.2.2.2.2.2.2.2.1.1.1) i cD,qR _ _ _ i cD,qR _ _ _ i cD,Yg,
   pK _ 32 _ (mem (·.ident) 32 fun y hy=>(h.1 y hy).2.1.1.1) i cD,pK _ 32 _ (mem (·.ux) 32 fun y hy=>(h.1 y hy).2.1.2.1.1) i cD,yB _ _ i cD,qR _ _ _ i cD,yB _ _ i cD,yB _ _ i cD,List.getElem_map,hD i hi]
  simp only [List.append_assoc,List.cons_append,List.nil_append,List.append_nil]
 ·have:=HC (h.1 _ (List.getElem_mem hi)).1.2.2.2.2.2.2.2.2.2.2.2.1;rw [hD i hi]at this;exact this
theorem Tb{p:V1×List tJ}(h:(EK (w:=w)).ok p): ∃C:Nat→Int,GN w (za false p.1.v (p.2.map jH) C)∧lg (pW w.heap.size w) (p.2.map jH) C:=by
 have key: ∀i,∃c:Int,∀hi:i<p.2.length,p.2[i].2.1.1.v=cc c:=by
  intro i;by_cases hi:i<p.2.length
  ·obtain⟨D,h1,_⟩:=LF (h.1 _ (List.getElem_mem hi)).2.1;obtain⟨c,hc⟩:=LD h1;exact⟨c,fun _=>hc⟩
  ·exact⟨0,fun h=>absurd h hi⟩
 obtain⟨C,hC⟩:=Classical.axiomOfChoice key;refine⟨C,oA h.2 (by rw [auJ]) ((su (tK (w:=w)).cells _ p.2 fun i hi=>?_).trans (by rw [auJ])),fun i hi=>?_⟩
 ·have cD:i<(p.2.map jH).length:=by rw [auJ];exact hi
  show([Value.int .u8 _]++([Value.int .u8 _]++[]))++([p.2[i].2.1.1.v]++[])=ay .u8 1 (bN (·.dev.a) (p.2.map jH)) i++(ay .u8 1 (bN (·.dev.d) (p.2.map jH)) i++(eA 1 (fun j=>cc (C j)) i++[]));rw [qR _ _ _ i cD,qR _ _ _ i cD,Yg,List.getElem_map,hC i hi];rfl
 ·have cD:i<p.2.length:=by rw [auJ]at hi;exact hi
  obtain⟨D,h1,h2⟩:=LF (h.1 _ (List.getElem_mem cD)).2.1;rw [List.getElem_map];refine⟨D,Bt (by rw [←hC i cD];exact h1) rfl,fun j hj=>?_⟩;have lq:j<p.2[i].2.1.2.length:=by rw [auJ]at hj;exact hj
  rw [List.getElem_map];exact Bt (h2 j lq) rfl
end Go.RX.Vb
