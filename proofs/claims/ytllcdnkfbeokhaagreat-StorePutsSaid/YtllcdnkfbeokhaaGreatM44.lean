/- A row of fields. -/
import Derived.Test.YtllcdnkfbeokhaaGreatM43
open Go.IntKind renaming wrap -> ae
open Go.Proofs.Tryz renaming prog -> ax8
open Go.Value renaming int -> ayD
open Int renaming natCast_nonneg -> ax4, toNat -> ag, toNat_natCast -> ax3
open List renaming append -> axQ, append_assoc -> ayl, flatMap_cons -> ayn, getD_cons_zero -> ah, length_append -> axP, length_map -> ayd, length_singleton -> axR
namespace Go.RX.Vb
open Go Go.RX Go.Proofs Go.Vs
theorem Aq(xs:List (List Nat))(i:Nat)(h:i<xs.length)(F:List eK):F++fK (xs.take (i+1))=(F++fK (xs.take i))++[⟨114,0,xs[i]⟩]:=by
 unfold fK;rw[du _ _ h,List.map_append,ayl];rfl
theorem cY(xs:List (List Nat)):(fK xs).length=xs.length:=ayd ..
theorem Cf{H' K:HP}{t s n:Nat}{v x:V1}{F:List eK}{C:Nat->Int}{m:List Nat}(aB:(Nat->Value)->List (Nat->List Value))(hH:H'.wr=true)(o:Nat)(ho:o=F.length)(w:World)(Fs:List HP)
  (h:aU ([aA true t s v.v n (aG n (aB λj=>if j=o then x.v else bg (C j))),H',aN true x.v m]++Fs) w) (hI:my (HP.look H') K F C):
  ∃(D:Nat->Int) (IM:HP),aU ([aA true t s v.v n (aG n (aB λj=>bg (D j))),IM]++Fs) w/\IM.wr=true/\(∀c,my (HP.look IM) K (F++[⟨c,0,m⟩]) D):=by
 have eX:=h;obtain⟨S,hS⟩:=eX;obtain⟨c,hc⟩:=UB (hS.at_ 2 _ rfl).1;have e:(λj=>if j=o then x.v else bg (C j))=λj=>bg (au C o c j):=by
  funext j;unfold au;by_cases hj:j=o
  .rw [if_pos hj,if_pos hj,hc]
  .rw [if_neg hj,if_neg hj]
 rw[e]at h;have e2:bq [aA true t s v.v n (aG n (aB λj=>bg (au C o c j))),H',aN true x.v m] [aA true t s v.v n (aG n (aB λj=>bg (au C o c j))),HP.two H' (aN true x.v m)]:=
  bq.front (A:=[_]) (bq.two hH rfl)
 refine⟨au C o c,HP.two H' (aN true x.v m),e2 w Fs h,rfl,λk=>?_⟩;have lV:ek (HP.look (HP.two H' (aN true x.v m))) (HP.look H'):=ek.one (a:=H') (b:=aN true x.v m);refine hI.snoc lV (λj hj=>if_neg (by omega)) (.inl ?_);have ec:au C o c F.length=c:=if_pos ho.symm;show cX _ (aN false (bg (au C o c F.length)) m);rw[ec,<-hc];have:=cX.other (a:=H') (t:=5) (s:=1) (n:=m.length) (v:=x.v) (cs:=aG m.length [ax .u8 1 (aJ m)]);exact⟨rfl,λw' S' hp=>this.2 w' S' hp⟩
set_option maxHeartbeats 1000000 in
theorem Pz(b:Nat)(v u:V1)(F:List eK)(C:Nat->Int)(xs:List (List Nat))(hx: ∀x∈xs,x.length=32)(hF:(F.length+xs.length)*40<=140737488355328)(H' K:HP)(hH:H'.wr=true)(hI:my (HP.look H') K F C):
  ao ax8 24 [.pointer (some ⟨b,0,none⟩),u.v] [ak b true [v.v],hU true v.v F C,H',aA false 23 32 u.v xs.length (aG xs.length [ax .u8 32 (cb (λx=>x) xs)])]
   λr hs=>r= .tuple #[]/\∃(v':V1) (C':Nat->Int) (IM:HP),hs=[ak b true [v'.v],hU true v'.v (F++fK xs) C',IM]/\IM.wr=true/\my (HP.look IM) K (F++fK xs) C':=by
 refine Ya _ (F.length:Int) (xs.length:Int) (bu eK.c F) (bu eK.n F) C (cb (λx=>x) xs) v u b H' ?_;unfold MO;refine⟨ax4 _,λ_=>?_⟩;refine⟨λe=> ∃(i:Nat) (v2:V1) (A B D:Nat->Int) (G:HP),e=⟨[],[v2],[(i:Int),((F.length+i:Nat):Int)],[A,B,D],[],[G],[]⟩/\i<=xs.length/\IL A eK.c (F++fK (xs.take i))/\IL B eK.n (F++fK (xs.take i))/\G.wr=true/\my (HP.look G) K (F++fK (xs.take i)) D,λe=>xs.length - (e.i.getD 0 0).toNat,?_,?_⟩
 .refine⟨v,0,(F.length:Int),bu eK.c F,bu eK.n F,C,H',rfl,rfl,rfl,rfl,λ_ _=>rfl,λ_ _=>rfl,λ_ _=>rfl,rfl,0,v,_,_,_,H',rfl,Nat.zero_le _,?_,?_,hH,?_⟩
  .rw [List.take_zero,show fK []=[]from rfl,List.append_nil];exact λ_ _=>rfl
  .rw [List.take_zero,show fK []=[]from rfl,List.append_nil];exact λ_ _=>rfl
  .rw [List.take_zero,show fK []=[]from rfl,List.append_nil];exact hI
 rintro v2 x2 x3 A4 A5 A6 p1 ⟨i,h_,A,B,D,G,he,hi,hA,hB,hG,hD⟩;simp only[Ext.mk.injEq,List.cons.injEq,and_true,true_and]at he;obtain⟨rfl,⟨rfl,rfl⟩,⟨rfl,rfl,rfl⟩,rfl⟩:=he;have hlen:(F++fK (xs.take i)).length=F.length+i:=by
  rw[axP,cY,List.length_take];omega
 refine⟨λcC=>?_,λlS=>?_⟩
 .have cj:i<xs.length:=by omega
  refine⟨by omega,λ_ b1 v3 v4 b2=>⟨by omega,λ_=>⟨by omega,λ_ v5=>?_⟩⟩⟩;have aox:aG 32 [ax .u8 1 (bx (cb (λx=>x) xs) (ag ((i:Int)*32)))]=aG xs[i].length [ax .u8 1 (aJ xs[i])]:=by
   have adk:=hx _ (List.getElem_mem cj);rw[adk];refine tc λj hj=>?_
   have e:bx (cb (λx=>x) xs) (ag ((i:Int)*32)) j=aJ xs[i] j:=by
    show aJ (xs.flatMap λx=>x) (_+j)=_;rw[show ag ((i:Int)*32)=i*32 by omega];exact jX (λx=>x) 32 xs hx i j cj hj
   have e1:ax .u8 1 (bx (cb (λx=>x) xs) (ag ((i:Int)*32))) j=ax .u8 1 (aJ xs[i]) j:=by
    show [ayD .u8 (bx _ _ (j*1+0))]=[ayD .u8 (aJ xs[i] (j*1+0))];rw[show j*1+0=j by omega,e]
   simp only[ayn,e1]
  refine⟨λe=> ∃(A7:Nat->Int) (G2:HP),e=⟨[],[],[],[A7],[],[G2],[]⟩/\G2.wr=true/\my (HP.look G2) K (F++fK (xs.take i)++[⟨114,0,xs[i]⟩]) A7,λw Fs ho=>?_,?_⟩
  .have adk:=hx _ (List.getElem_mem cj);have C1:aU ([aA true 84 3 v5.v (F.length+i+1) (aG (F.length+i+1) ((λq=>[ax .u8 1 (au A4 (F.length+i) 114),ax .u64 1 (au A5 (F.length+i) 0),cV 1 q]) λj=>if j=F.length+i then v4.v else bg (A6 j))),p1,aA true 5 1 v4.v 32 (aG 32 [ax .u8 1 (bx (cb (λx=>x) xs) (ag ((i:Int)*32)))])]++Fs) w:=ho;rw[aox]at C1;have Xs:aU ([aA true 84 3 v5.v (F.length+i+1) (aG (F.length+i+1) ((λq=>[ax .u8 1 (au A4 (F.length+i) 114),ax .u64 1 (au A5 (F.length+i) 0),cV 1 q]) λj=>if j=F.length+i then v4.v else bg (A6 j))),p1,aN true v4.v xs[i]]++Fs) w:=by
    have:aN true v4.v xs[i]=aA true 5 1 v4.v 32 (aG xs[i].length [ax .u8 1 (aJ xs[i])]):=congrArg (λn=>aA true 5 1 v4.v n _) adk;rw[this];exact C1
   obtain⟨A7,G2,h1,h2,h3⟩:=Cf (λq=>[ax .u8 1 (au A4 (F.length+i) 114),ax .u64 1 (au A5 (F.length+i) 0),cV 1 q]) hG (F.length+i) hlen.symm w Fs Xs hD;exact⟨A7,G2,h1,A7,G2,rfl,h2,h3 114⟩
  rintro A7 p2 ⟨OJ,G2,he,h2,h3⟩;simp only[Ext.mk.injEq,List.cons.injEq,and_true,true_and]at he;obtain⟨rfl,rfl⟩:=he;refine⟨by omega,λ_=>⟨by omega,λ_=>?_⟩⟩;refine⟨v5,((i+1:Nat):Int),((F.length+(i+1):Nat):Int),_,_,_,p2,rfl,rfl,rfl,by omega,λ_ _=>rfl,λ_ _=>rfl,λ_ _=>rfl,rfl,⟨i+1,v5,_,_,_,p2,rfl,by omega,?_,?_,h2,?_⟩,?_⟩
  .rw [Aq xs i cj];exact hA.snoc (by rw[hlen];rfl) rfl
  .rw [Aq xs i cj];exact hB.snoc (by rw[hlen];rfl) rfl
  .rw [Aq xs i cj];exact h3
  .simp only[ah];omega
 .have xQ:i=xs.length:=by omega
  subst xQ;rw[List.take_length]at hA hB hD hlen;refine⟨rfl,v2,A6,p1,?_,hG,hD⟩;have:=Ao (v:=v2.v) (C:=A6) hA hB;rw[hlen]at this;rw[show kg v2 ((F.length+xs.length:Nat):Int) A4 A5 A6=_ from this]
open Go Go.RX Go.Proofs Go.Vs
theorem adl{n:Nat}(h:n<18446744073709551616):ae .u64 (n:Int)=(n:Int):=by
 show((n:Int)%18446744073709551616)=n;omega
theorem pN(n:Nat):ae .u64 (n:Int)=((n%18446744073709551616:Nat):Int):=by
 show((n:Int)%18446744073709551616)=_;omega
theorem PA(n:Nat):ao ax8 23 [.int .u64 (n:Int),.int .i64 1] [] λr hs=> ∃o:V1,r=o.v/\hs=[aN true o.v (be 1 n)]:=by
 refine ada _ (n:Int) λv0=>⟨v0,rfl,?_⟩
 rw[iP,CQ (Nat.mod_lt _ (by decide))];have hb:cu (au (λ_=>0) 0 ((n%256:Nat):Int)) (be 1 n):=λj hj=>by
  match j,hj with
  | 0,_=>rfl
  | j+1,hj=>exact absurd hj (by rw[aw];omega)
 exact congrArg (λx=>[aA true 5 1 v0.v 1 x]) hb.wj
theorem uk(a b M:Nat)(hM:M ∣ 18446744073709551616)(h:a%(256*M)=b%(256*M)):(a/256%18446744073709551616)%M=(b/256)%M:=by
 rw[Nat.mod_mod_of_dvd _ hM,<-Nat.mod_mul_right_div_self,<-Nat.mod_mul_right_div_self,h]
theorem De(x q M:Nat)(hd:256 ∣ M)(h:x%M=q%M):x%256=q%256:=by
 rw[<-Nat.mod_mod_of_dvd x hd,h,Nat.mod_mod_of_dvd _ hd]
theorem yl(n:Nat):ao ax8 23 [.int .u64 (n:Int),.int .i64 4] [] λr hs=> ∃o:V1,r=o.v/\hs=[aN true o.v (be 4 n)]:=by
 refine ade _ (n:Int) λv0=>⟨v0,rfl,?_⟩
 simp only[iP,kV];rw[pN (n/256)];have g1:n/256%18446744073709551616%72057594037927936=n/256%72057594037927936:=uk n (n) 72057594037927936 (by decide) rfl;generalize n/256%18446744073709551616=n1 at*;simp only[iP,kV];rw[pN (n1/256)];have g2:n1/256%18446744073709551616%281474976710656=n/256/256%281474976710656:=uk n1 (n/256) 281474976710656 (by decide) g1;generalize n1/256%18446744073709551616=n2 at*;simp only[iP,kV];rw[pN (n2/256)];have g3:n2/256%18446744073709551616%1099511627776=n/256/256/256%1099511627776:=uk n2 (n/256/256) 1099511627776 (by decide) g2;generalize n2/256%18446744073709551616=n3 at*;simp only[iP];rw[CQ (Nat.mod_lt n (by decide)),CQ (Nat.mod_lt n1 (by decide)),CQ (Nat.mod_lt n2 (by decide)),CQ (Nat.mod_lt n3 (by decide))];have hb:cu (au (au (au (au (λ_=>0) 3 ((n%256:Nat):Int)) 2 ((n1%256:Nat):Int)) 1 ((n2%256:Nat):Int)) 0 ((n3%256:Nat):Int)) (be 4 n):=λj hj=>by
  match j,hj with
  | 0,_=>exact congrArg Nat.cast (De n3 _ 1099511627776 (by decide) g3)
  | 1,_=>exact congrArg Nat.cast (De n2 _ 281474976710656 (by decide) g2)
  | 2,_=>exact congrArg Nat.cast (De n1 _ 72057594037927936 (by decide) g1)
  | 3,_=>rfl
  | j+4,hj=>exact absurd hj (by rw[aw];omega)
 exact congrArg (λx=>[aA true 5 1 v0.v 4 x]) hb.wj
theorem PB(n:Nat):ao ax8 23 [.int .u64 (n:Int),.int .i64 8] [] λr hs=> ∃o:V1,r=o.v/\hs=[aN true o.v (be 8 n)]:=by
 refine adg _ (n:Int) λv0=>⟨v0,rfl,?_⟩
 simp only[iP,kV];rw[pN (n/256)];have g1:n/256%18446744073709551616%72057594037927936=n/256%72057594037927936:=uk n (n) 72057594037927936 (by decide) rfl;generalize n/256%18446744073709551616=n1 at*;simp only[iP,kV];rw[pN (n1/256)];have g2:n1/256%18446744073709551616%281474976710656=n/256/256%281474976710656:=uk n1 (n/256) 281474976710656 (by decide) g1;generalize n1/256%18446744073709551616=n2 at*;simp only[iP,kV];rw[pN (n2/256)];have g3:n2/256%18446744073709551616%1099511627776=n/256/256/256%1099511627776:=uk n2 (n/256/256) 1099511627776 (by decide) g2;generalize n2/256%18446744073709551616=n3 at*;simp only[iP,kV];rw[pN (n3/256)];have g4:n3/256%18446744073709551616%4294967296=n/256/256/256/256%4294967296:=uk n3 (n/256/256/256) 4294967296 (by decide) g3;generalize n3/256%18446744073709551616=n4 at*;simp only[iP,kV];rw[pN (n4/256)];have g5:n4/256%18446744073709551616%16777216=n/256/256/256/256/256%16777216:=uk n4 (n/256/256/256/256) 16777216 (by decide) g4;generalize n4/256%18446744073709551616=n5 at*;simp only[iP,kV];rw[pN (n5/256)];have g6:n5/256%18446744073709551616%65536=n/256/256/256/256/256/256%65536:=uk n5 (n/256/256/256/256/256) 65536 (by decide) g5;generalize n5/256%18446744073709551616=n6 at*;simp only[iP,kV];rw[pN (n6/256)];have g7:n6/256%18446744073709551616%256=n/256/256/256/256/256/256/256%256:=uk n6 (n/256/256/256/256/256/256) 256 (by decide) g6;generalize n6/256%18446744073709551616=n7 at*;simp only[iP];rw[CQ (Nat.mod_lt n (by decide)),CQ (Nat.mod_lt n1 (by decide)),CQ (Nat.mod_lt n2 (by decide)),CQ (Nat.mod_lt n3 (by decide)),CQ (Nat.mod_lt n4 (by decide)),CQ (Nat.mod_lt n5 (by decide)),CQ (Nat.mod_lt n6 (by decide)),CQ (Nat.mod_lt n7 (by decide))]
 have hb:cu (au (au (au (au (au (au (au (au (λ_=>0) 7 ((n%256:Nat):Int)) 6 ((n1%256:Nat):Int)) 5 ((n2%256:Nat):Int)) 4 ((n3%256:Nat):Int)) 3 ((n4%256:Nat):Int)) 2 ((n5%256:Nat):Int)) 1 ((n6%256:Nat):Int)) 0 ((n7%256:Nat):Int)) (be 8 n):=λj hj=>by
  match j,hj with
  | 0,_=>exact congrArg Nat.cast (De n7 _ 256 (by decide) g7)
  | 1,_=>exact congrArg Nat.cast (De n6 _ 65536 (by decide) g6)
  | 2,_=>exact congrArg Nat.cast (De n5 _ 16777216 (by decide) g5)
  | 3,_=>exact congrArg Nat.cast (De n4 _ 4294967296 (by decide) g4)
  | 4,_=>exact congrArg Nat.cast (De n3 _ 1099511627776 (by decide) g3)
  | 5,_=>exact congrArg Nat.cast (De n2 _ 281474976710656 (by decide) g2)
  | 6,_=>exact congrArg Nat.cast (De n1 _ 72057594037927936 (by decide) g1)
  | 7,_=>rfl
  | j+8,hj=>exact absurd hj (by rw[aw];omega)
 exact congrArg (λx=>[aA true 5 1 v0.v 8 x]) hb.wj
theorem UC(F:List eK)(i:Nat)(h:i<F.length):jy (F.take (i+1))=jy (F.take i)++fE F[i]:=by
 rw[du _ _ h,kJ];show _++(fE F[i]++[])=_;rw[List.append_nil]
theorem IN(F:List eK)(i:Nat):(jy (F.take i)).length<=(jy F).length:=by
 have:jy F=jy (F.take i)++jy (F.drop i):=by rw[<-kJ,List.take_append_drop]
 rw[this,axP];omega
set_option maxHeartbeats 2000000 in
theorem IP(v:V1)(F:List eK)(C:Nat->Int)(H:HP)(hH:H.wr=false)(hI: ∀(i:Nat) (h:i<F.length),cX H (aN false (bg (C i)) F[i].b))(hF:F.length<=140737488355328)(si:(jy F).length<=140737488355328):
  ao ax8 11 [v.v] [hU false v.v F C,H] λr hs=> ∃o:V1,r=o.v/\hs=[aN true o.v (jy F)]:=by
 refine ao.post (adh (λr hs=> ∃o:V1,r=o.v/\List.Sublist [aN true o.v (jy F)] hs) (F.length:Int) (bu eK.c F) (bu eK.n F) C v H ?_) ?_;rotate_left
 .rintro r hs ⟨o,rfl,h⟩;exact⟨_,bq.sub h,o,rfl,rfl⟩
 unfold Us;refine⟨λe=> ∃(i:Nat) (o:V1) (A:Nat->Int),e=⟨[],[o],[(i:Int),((jy (F.take i)).length:Int)],[A],[],[],[]⟩/\i<=F.length/\cu A (jy (F.take i)),λe=>F.length - (e.i.getD 0 0).toNat,?_,?_⟩
 .exact⟨bh,0,0,λ_=>0,rfl,rfl,rfl,rfl,λ_ _=>rfl,0,bh,λ_=>0,rfl,Nat.zero_le _,λj hj=>absurd hj (Nat.not_lt_zero j)⟩
 rintro o x1 x2 A ⟨i,o',A',he,hi,hA⟩;simp only[Ext.mk.injEq,List.cons.injEq,and_true,true_and]at he;obtain⟨rfl,⟨rfl,rfl⟩,rfl⟩:=he;refine⟨ax4 _,λ_=>⟨λcC=>?_,λlS=>?_⟩⟩
 .have cj:i<F.length:=by omega
  have hg:=hI i cj;have hT:=UC F i cj;have hle:=IN F (i+1);have e1:bu eK.c F (ag (i:Int))=((F[i].c:Nat):Int):=ej _ _ i cj;have e2:bu eK.n F (ag (i:Int))=((F[i].n:Nat):Int):=ej _ _ i cj;rw[e1,e2];generalize F[i]=f at*;obtain⟨V,hV⟩: ∃V:V1,V.v=bg (C i):=⟨⟨bg (C i),iU _⟩,rfl⟩;rw[<-hV]at hg;have ept:=Ff C i V hV;have ZA:aA false 84 3 v.v F.length (aG F.length [ax .u8 1 (bu eK.c F),ax .u64 1 (bu eK.n F),cV 1 (λj=>if j=i then V.v else bg (C j))])=hU false v.v F C:=by rw[ept]
  refine⟨λe=>e=⟨[],[V],[(f.b.length:Int)],[aJ f.b],[],[],[]⟩,λw Fs ho=>⟨V,(f.b.length:Int),aJ f.b,?_,rfl⟩,?_⟩
  .have e3:bq [hU false v.v F C,H] [aA false 84 3 v.v F.length (aG F.length [ax .u8 1 (bu eK.c F),ax .u64 1 (bu eK.n F),cV 1 (λj=>if j=i then V.v else bg (C j))]),H,aN false V.v f.b]:=by
    rw[ZA];exact bq.front (A:=[_]) (bq.trans (cX.SF hH hg) (bq.perm (List.Perm.swap _ _ _)))
   exact e3 w Fs ho
  rintro v3 x3 A4 he;have he:=he.symm;simp only[Ext.mk.injEq,List.cons.injEq,and_true,true_and]at he;obtain⟨rfl,rfl,rfl⟩:=he;refine⟨ax4 _,λ_ b1=>⟨λ_=>True,λw Fs ho=>⟨?_,trivial⟩,λ_=>?_⟩⟩
  .have e3:bq [aA false 84 3 v.v F.length (aG F.length [ax .u8 1 (bu eK.c F),ax .u64 1 (bu eK.n F),cV 1 (λj=>if j=i then V.v else bg (C j))]),aN false V.v f.b] [hU false v.v F C,aN false V.v f.b]:=by
    rw[ZA];exact bq.refl _
   exact e3 w Fs ho
  have ym: ∀(w:World) (Fs:List HP),aU ([aN false V.v f.b]++Fs) w->aU ([]++Fs) w:=λw Fs ho=>bq.sub (a:=[_]) (b:=[]) (List.nil_sublist _) w Fs ho
  refine⟨λhc=>?_,λhc1=>⟨λhc=>?_,λhc2=>⟨λhc=>?_,λhc3=>⟨λhc=>?_,λhc4=>⟨λhc=>?_,λhc5=>⟨λhc=>?_,λhc6=>⟨λhc=>?_,λhc7=>?_⟩⟩⟩⟩⟩⟩⟩
  .have hE:fE f=be 1 f.n:=by unfold fE;rw[if_pos (by omega)]
   rw[hE]at hT;have hl:(jy (F.take (i+1))).length=(jy (F.take i)).length+(be 1 f.n).length:=by rw[hT,axP]
   refine⟨_,PA f.n,?_⟩;rintro x hs ⟨o4,rfl,rfl⟩;refine⟨o4,((be 1 f.n).length:Int),aJ (be 1 f.n),rfl,rfl,⟨ax4 _,λ_=>⟨ax4 _,λ_=>⟨ax4 _,λ_=>⟨by omega,λ_ v5=>⟨by omega,λ_=>⟨by omega,λ_=>⟨λ_=>True,λw Fs ho=>⟨ym w Fs ho,trivial⟩,λ_=>?_⟩⟩⟩⟩⟩⟩⟩⟩;refine⟨v5,((i+1:Nat):Int),((jy (F.take (i+1))).length:Int),_,rfl,rfl,rfl,by rw[hl];rfl,λ_ _=>rfl,⟨i+1,v5,_,rfl,by omega,?_⟩,?_⟩
   .rw [hT];exact hA.jA (ax3 _) (ax3 _) λ_ _=>rfl
   .simp only[ah];omega
  .have hE:fE f=be 4 f.n:=by unfold fE;rw[if_neg (by omega),if_pos (by omega)]
   rw[hE]at hT;have hl:(jy (F.take (i+1))).length=(jy (F.take i)).length+(be 4 f.n).length:=by rw[hT,axP]
   refine⟨_,yl f.n,?_⟩;rintro x hs ⟨o4,rfl,rfl⟩;refine⟨o4,((be 4 f.n).length:Int),aJ (be 4 f.n),rfl,rfl,⟨ax4 _,λ_=>⟨ax4 _,λ_=>⟨ax4 _,λ_=>⟨by omega,λ_ v5=>⟨by omega,λ_=>⟨by omega,λ_=>⟨λ_=>True,λw Fs ho=>⟨ym w Fs ho,trivial⟩,λ_=>?_⟩⟩⟩⟩⟩⟩⟩⟩;refine⟨v5,((i+1:Nat):Int),((jy (F.take (i+1))).length:Int),_,rfl,rfl,rfl,by rw[hl];rfl,λ_ _=>rfl,⟨i+1,v5,_,rfl,by omega,?_⟩,?_⟩
   .rw [hT];exact hA.jA (ax3 _) (ax3 _) λ_ _=>rfl
   .simp only[ah];omega
  .have hE:fE f=be 4 f.n:=by unfold fE;rw[if_neg (by omega),if_pos (by omega)]
   rw[hE]at hT;have hl:(jy (F.take (i+1))).length=(jy (F.take i)).length+(be 4 f.n).length:=by rw[hT,axP]
   refine⟨_,yl f.n,?_⟩;rintro x hs ⟨o4,rfl,rfl⟩;refine⟨o4,((be 4 f.n).length:Int),aJ (be 4 f.n),rfl,rfl,⟨ax4 _,λ_=>⟨ax4 _,λ_=>⟨ax4 _,λ_=>⟨by omega,λ_ v5=>⟨by omega,λ_=>⟨by omega,λ_=>⟨λ_=>True,λw Fs ho=>⟨ym w Fs ho,trivial⟩,λ_=>?_⟩⟩⟩⟩⟩⟩⟩⟩;refine⟨v5,((i+1:Nat):Int),((jy (F.take (i+1))).length:Int),_,rfl,rfl,rfl,by rw[hl];rfl,λ_ _=>rfl,⟨i+1,v5,_,rfl,by omega,?_⟩,?_⟩
   .rw [hT];exact hA.jA (ax3 _) (ax3 _) λ_ _=>rfl
   .simp only[ah];omega
  .have hE:fE f=be 8 f.n:=by unfold fE;rw[if_neg (by omega),if_neg (by omega),if_pos (by omega)]
   rw[hE]at hT;have hl:(jy (F.take (i+1))).length=(jy (F.take i)).length+(be 8 f.n).length:=by rw[hT,axP]
   refine⟨_,PB f.n,?_⟩;rintro x hs ⟨o4,rfl,rfl⟩;refine⟨o4,((be 8 f.n).length:Int),aJ (be 8 f.n),rfl,rfl,⟨ax4 _,λ_=>⟨ax4 _,λ_=>⟨ax4 _,λ_=>⟨by omega,λ_ v5=>⟨by omega,λ_=>⟨by omega,λ_=>⟨λ_=>True,λw Fs ho=>⟨ym w Fs ho,trivial⟩,λ_=>?_⟩⟩⟩⟩⟩⟩⟩⟩;refine⟨v5,((i+1:Nat):Int),((jy (F.take (i+1))).length:Int),_,rfl,rfl,rfl,by rw[hl];rfl,λ_ _=>rfl,⟨i+1,v5,_,rfl,by omega,?_⟩,?_⟩
   .rw [hT];exact hA.jA (ax3 _) (ax3 _) λ_ _=>rfl
   .simp only[ah];omega
  .have hE:fE f=[if f.n=0 then 0 else 1]:=by unfold fE;rw[if_neg (by omega),if_neg (by omega),if_neg (by omega),if_pos (by omega)]
   rw[hE]at hT;have hl:(jy (F.take (i+1))).length=(jy (F.take i)).length+1:=by rw[hT,axP];rfl
   refine⟨λhz=>?_,λhz=>?_⟩
   .intro b2;refine⟨ax4 _,λ_=>⟨by omega,λ_ v5=>⟨by omega,λ_=>⟨by omega,λ_=>⟨λ_=>True,λw Fs ho=>⟨ym w Fs ho,trivial⟩,λ_=>?_⟩⟩⟩⟩⟩;refine⟨v5,((i+1:Nat):Int),((jy (F.take (i+1))).length:Int),_,rfl,rfl,rfl,by rw[hl];rfl,λ_ _=>rfl,⟨i+1,v5,_,rfl,by omega,?_⟩,?_⟩
    .rw [hT,if_neg (by omega)];exact hA.oL (ax3 _) rfl
    .simp only[ah];omega
   .intro b2;refine⟨ax4 _,λ_=>⟨by omega,λ_ v5=>⟨by omega,λ_=>⟨by omega,λ_=>⟨λ_=>True,λw Fs ho=>⟨ym w Fs ho,trivial⟩,λ_=>?_⟩⟩⟩⟩⟩;have hz0:f.n=0:=by omega
    refine⟨v5,((i+1:Nat):Int),((jy (F.take (i+1))).length:Int),_,rfl,rfl,rfl,by rw[hl];rfl,λ_ _=>rfl,⟨i+1,v5,_,rfl,by omega,?_⟩,?_⟩
    .rw [hT,if_pos hz0];exact hA.oL (ax3 _) (by rw[hz0];rfl)
    .simp only[ah];omega
  .have hE:fE f=f.b:=by unfold fE;rw[if_neg (by omega),if_neg (by omega),if_neg (by omega),if_neg (by omega),if_pos (by omega)]
   rw[hE]at hT;have hl:(jy (F.take (i+1))).length=(jy (F.take i)).length+f.b.length:=by rw[hT,axP]
   refine⟨ax4 _,λ_=>⟨ax4 _,λ_=>⟨ax4 _,λ_=>⟨by omega,λ_ v5=>⟨by omega,λ_=>⟨by omega,λ_=>⟨λ_=>True,λw Fs ho=>⟨ym w Fs ho,trivial⟩,λ_=>?_⟩⟩⟩⟩⟩⟩⟩;refine⟨v5,((i+1:Nat):Int),((jy (F.take (i+1))).length:Int),_,rfl,rfl,rfl,by rw[hl];rfl,λ_ _=>rfl,⟨i+1,v5,_,rfl,by omega,?_⟩,?_⟩
   .rw [hT];exact hA.jA (ax3 _) (ax3 _) λ_ _=>rfl
   .simp only[ah];omega
  .have hE:fE f=be 4 f.b.length++f.b:=by unfold fE;rw[if_neg (by omega),if_neg (by omega),if_neg (by omega),if_neg (by omega),if_neg (by omega),if_pos (by omega)]
   rw[hE]at hT;have hl:(jy (F.take (i+1))).length=(jy (F.take i)).length+(be 4 f.b.length).length+f.b.length:=by rw[hT,axP,axP];omega
   refine⟨ax4 _,λ_=>?_⟩;rw[adl (n:=f.b.length) (by omega)];refine⟨_,yl f.b.length,?_⟩;rintro x hs ⟨o4,rfl,rfl⟩;refine⟨o4,((be 4 f.b.length).length:Int),aJ (be 4 f.b.length),rfl,rfl,⟨ax4 _,λ_=>⟨ax4 _,λ_=>⟨ax4 _,λ_=>⟨by omega,λ_ v5=>⟨by omega,λ_=>⟨by omega,λ_ v6=>⟨by omega,λ_=>⟨by omega,λ_=>⟨λ_=>True,λw Fs ho=>⟨ym w Fs ho,trivial⟩,λ_=>?_⟩⟩⟩⟩⟩⟩⟩⟩⟩⟩;refine⟨v6,((i+1:Nat):Int),((jy (F.take (i+1))).length:Int),_,rfl,rfl,rfl,by rw[hl];rfl,λ_ _=>rfl,⟨i+1,v6,_,rfl,by omega,?_⟩,?_⟩
   .rw [hT,<-ayl];have h1:=hA.jA (o:=ag ((jy (F.take i)).length:Int)) (n:=ag ((be 4 f.b.length).length:Int)) (g:=aJ (be 4 f.b.length)) (m:=be 4 f.b.length) (ax3 _) (ax3 _) λ_ _=>rfl
    exact h1.jA (by rw[axP];omega) (ax3 _) λ_ _=>rfl
   .simp only[ah];omega
  .have hE:fE f=[]:=by unfold fE;rw[if_neg (by omega),if_neg (by omega),if_neg (by omega),if_neg (by omega),if_neg (by omega),if_neg (by omega)]
   rw[hE,List.append_nil]at hT;refine⟨by omega,λ_=>⟨by omega,λ_=>⟨λ_=>True,λw Fs ho=>⟨ym w Fs ho,trivial⟩,λ_=>?_⟩⟩⟩;refine⟨o,((i+1:Nat):Int),((jy (F.take (i+1))).length:Int),_,rfl,rfl,rfl,by rw[hT],λ_ _=>rfl,⟨i+1,o,_,rfl,by omega,?_⟩,?_⟩
   .rw [hT];exact hA
   .simp only[ah];omega
 .have xQ:i=F.length:=by omega
  subst xQ;rw[List.take_length]at hA ⊢;refine⟨o,rfl,?_⟩;have e4:cr o ((jy F).length:Int) A=aN true o.v (jy F):=by
   show aA true 5 1 o.v (jy F).length (aG (jy F).length [ax .u8 1 A])=_;rw[hA.wj]
  rw[e4];exact List.sublist_append_of_sublist_right (l₁:=[_,_]) (l₂:=[_]) (List.Sublist.refl _)
open Go Go.RX Go.Proofs Go.Vs
theorem UD(b:Nat)(v:V1)(F:List eK)(C:Nat->Int)(k:List Nat)(hk:k.length=16)(hF:(F.length+1)*40<=140737488355328)(H' K:HP)(hH:H'.wr=true)(hI:my (HP.look H') K F C):
  ao ax8 30 [.pointer (some ⟨b,0,none⟩),.agg (axQ (aj .u8 16 (aJ k)) ([])).toArray] [ak b true [v.v],hU true v.v F C,H']
   λr hs=>r= .tuple #[]/\∃(v':V1) (C':Nat->Int) (IM:HP),hs=[ak b true [v'.v],hU true v'.v (F++fK [k]) C',IM]/\IM.wr=true/\my (HP.look IM) K (F++fK [k]) C':=by
 refine adj _ (F.length:Int) (bu eK.c F) (bu eK.n F) C (aJ k) v b H' ?_;unfold Uv;intro b1 v1 v2 b2;refine⟨by omega,λ_=>⟨by omega,λ_ v3=>?_⟩⟩;refine⟨λe=> ∃(A7:Nat->Int) (G2:HP),e=⟨[],[],[],[A7],[],[G2],[]⟩/\G2.wr=true/\my (HP.look G2) K (F++[⟨114,0,k⟩]) A7,λw Fs ho=>?_,?_⟩
 .have C1:aU ([aA true 84 3 v3.v (F.length+1) (aG (F.length+1) ((λq=>[ax .u8 1 (au (bu eK.c F) F.length 114),ax .u64 1 (au (bu eK.n F) F.length 0),cV 1 q]) λj=>if j=F.length then v2.v else bg (C j))),H',aA true 5 1 v2.v 16 (aG 16 [ax .u8 1 (aJ k)])]++Fs) w:=ho;rw[show aA true 5 1 v2.v 16 (aG 16 [ax .u8 1 (aJ k)])=aN true v2.v k by rw[aN,hk]]at C1;obtain⟨A7,G2,h1,h2,h3⟩:=Cf (λq=>[ax .u8 1 (au (bu eK.c F) F.length 114),ax .u64 1 (au (bu eK.n F) F.length 0),cV 1 q]) hH F.length rfl w Fs C1 hI;exact⟨A7,G2,h1,A7,G2,rfl,h2,h3 114⟩
 rintro A7 p2 ⟨OJ,G2,he,h2,h3⟩;simp only[Ext.mk.injEq,List.cons.injEq,and_true,true_and]at he;obtain⟨rfl,rfl⟩:=he;refine⟨rfl,v3,A7,p2,?_,h2,h3⟩;have hA:IL (au (bu eK.c F) F.length 114) eK.c (F++[⟨114,0,k⟩]):=IL.snoc (λ_ _=>rfl) rfl rfl;have hB:IL (au (bu eK.n F) F.length 0) eK.n (F++[⟨114,0,k⟩]):=IL.snoc (λ_ _=>rfl) rfl rfl;have:=Ao (v:=v3.v) (C:=A7) hA hB;rw[axP,axR]at this;rw[show kg v3 ((F.length:Int)+1) (au (bu eK.c F) (ag (F.length:Int)) 114) (au (bu eK.n F) (ag (F.length:Int)) 0) A7=_ from this];rfl
theorem UE(b:Nat)(v:V1)(F:List eK)(C:Nat->Int)(c:Int)(m:List Nat)(hF:(F.length+1)*40<=140737488355328)(H K:HP)(hI:my H K F C)(hm:cX K (aN false (bg c) m)):
  ao ax8 29 [.pointer (some ⟨b,0,none⟩),bg c] [ak b true [v.v],hU true v.v F C]
   λr hs=>r= .tuple #[]/\∃(v':V1) (C':Nat->Int),hs=[ak b true [v'.v],hU true v'.v (F++fS m) C']/\my H K (F++fS m) C':=by
 refine adi _ (F.length:Int) c (bu eK.c F) (bu eK.n F) C v b ?_;unfold Uu;intro b1;refine⟨by omega,λ_=>⟨by omega,λ_ v1=>?_⟩⟩;have hA:IL (au (bu eK.c F) F.length 115) eK.c (F++fS m):=IL.snoc (λ_ _=>rfl) rfl rfl;have hB:IL (au (bu eK.n F) F.length 0) eK.n (F++fS m):=IL.snoc (λ_ _=>rfl) rfl rfl;have:=Ao (v:=v1.v) (C:=au C F.length c) hA hB;rw[show(F++fS m).length=F.length+1 from axP ..]at this;refine⟨rfl,v1,au C F.length c,?_,?_⟩
 .exact congrArg (λh=>[ak b true [v1.v],h]) this
 .refine hI.snoc ek.refl (λj hj=>if_neg (by omega)) (.inr ?_);show cX K (aN false (bg (au C F.length c F.length)) m);rw[show au C F.length c F.length=c from if_pos rfl];exact hm
def bT(K:HP)(b:Nat)(F:List eK):HP:=HP.ex λq:{q:V1×(Nat->Int)×HP // q.2.2.wr=true/\my (HP.look q.2.2) K F q.2.1}=>HP.star [ak b true [q.1.1.v],hU true q.1.1.v F q.1.2.1,q.1.2.2]
theorem Ar{K:HP}{b:Nat}{F:List eK}{v:V1}{C:Nat->Int}{H':HP}(hH:H'.wr=true)(hI:my (HP.look H') K F C):bq [ak b true [v.v],hU true v.v F C,H'] [bT K b F]:=by
 refine bq.trans (bq.star λh hh=>?_) (bq.ex (α:={q:V1×(Nat->Int)×HP // q.2.2.wr=true/\my (HP.look q.2.2) K F q.2.1}) (F:=λq=>HP.star [ak b true [q.1.1.v],hU true q.1.1.v F q.1.2.1,q.1.2.2]) ⟨(v,C,H'),hH,hI⟩ rfl);simp only[List.mem_cons,List.not_mem_nil,or_false]at hh;rcases hh with rfl | rfl | rfl
 .rfl
 .rfl
 .exact hH
theorem yn{P:Program}{f:Nat}{args:List Value}{K:HP}{b:Nat}{F:List eK}{R:List HP}{post:Value->List HP->Prop}(h: ∀(v:V1) (C:Nat->Int) (H':HP),H'.wr=true->my (HP.look H') K F C->ao P f args ([ak b true [v.v],hU true v.v F C,H']++R) post):ao P f args (bT K b F::R) post:=
 ao.ex λq=>ao.pre (h q.1.1 q.1.2.1 q.1.2.2 q.2.1 q.2.2) (bq.frame (bq.Ra _) R)
end Go.RX.Vb
