/- A state is taken. -/
import Derived.Test.YtllcdnkfbeokhaaGreatM43
open Bool renaming and_eq_true → ai
open Go.IntKind renaming wrap → ae
open Go.Proofs.Tryz renaming prog → aqQ
open Int renaming toNat → ag, toNat_natCast → aqD
open List renaming all_eq_true → aqn, append → aqk, getD_eq_getElem?_getD → aqN, getElem?_eq_some_iff → aqo, map_cons → aqP, mem_append → aqC, mem_range → aqE, mem_singleton → aqx
namespace Go.RX.Vb
open Go Go.RX Go.Proofs Go.Vs
theorem Xr{x:Value}{l:List Nat}{lo hi:Nat}(h1:lo≤hi)(h2:hi≤l.length):aT false (aE 1 x lo hi none) (aQ l lo hi)=aB false 5 1 (aE 1 x lo hi none) (hi - lo) (((aK l.length [aC .u8 1 (aL l)]).drop (lo*1)).take ((hi - lo)*1)):=by
 rw [ED l lo (hi - lo) (by omega)];exact congrArg (fun n=>aB false 5 1 (aE 1 x lo hi none) n (aK (aQ l lo hi).length [aC .u8 1 (aL (aQ l lo hi))])) (c_ h1 h2)
theorem pD{B:List HP}{x:Value}{l:List Nat}{lo hi:Nat}(hb:bc B (aT false x l))(h1:lo≤hi)(h2:hi≤l.length):bc B (aT false (aE 1 x lo hi none) (aQ l lo hi)):=by
 rw [Xr h1 h2];exact bc.sub (mx:=none) hb h1 h2 fun m h=>by cases h
def HP.none:HP:=⟨true,fun _ S=> ∀k,¬S k,fun _ _ _ h _=>h⟩
def HP.look(H:HP):HP:=⟨false,H.p,H.eY⟩
theorem bc.look{H:HP}:bc [H] (HP.look H):=⟨rfl,fun _ _ hS=>⟨_,(hS.at_ 0 _ rfl).1,fun _ hk=>⟨0,by simp,hk⟩⟩⟩
theorem bJ.none:bJ [] [HP.none]:=by
 intro w Fs ⟨S,hS⟩;refine⟨fun i=>match i with | 0=>fun _=>False | i+1=>S i,⟨?_,?_⟩⟩
 ·intro i x hx
  match i,hx with
  | 0,hx=>
   simp at hx;subst hx;exact⟨fun k h=>h,fun k h=>h.elim⟩
  | i+1,hx=>exact hS.at_ i x (by simpa using hx)
 ·intro i j x y fg hx hy hw k
  match i,j,fg,hx,hy with
  | 0,_,_,_,_=>exact fun h=>h.elim
  | i+1,0,_,_,_=>exact fun _ h=>h
  | i+1,j+1,fg,hx,hy=>exact hS.apart i j x y (by omega) (by simpa using hx) (by simpa using hy) hw k
theorem iH{B:List HP}{t s n:Nat}{v:Value}{cs:List Value}(hm:aB true t s v n cs∈B):bc B (aB false t s v n cs):=by
 obtain⟨a,b,rfl⟩:=List.append_of_mem hm;have:=bc.mid (A:=a) (C:=b) (bc.own (t:=t) (s:=s) (n:=n) (v:=v) (cs:=cs))
 rwa [List.append_assoc]at this
theorem zD{x:Value}{l:List Nat}{lo hi:Nat}(h1:lo≤hi)(h2:hi≤l.length):bJ [aT false x l] [aT false x l,aT false (aE 1 x lo hi none) (aQ l lo hi)]:=
 bJ.trans (bJ.dup rfl []) (bJ.view (mx:=none) (m:=aQ l lo hi) h1 h2 (fun m h=>by cases h) rfl _ 1 rfl)
theorem Hx: ∀{l m:List Nat},(∀x∈l,x<256)→(∀x∈m,x<256)→l.map UInt8.ofNat=m.map UInt8.ofNat→l=m
 | [],[],_,_,_=>rfl
 | [],_::_,_,_,h=>by cases h
 | _::_,[],_,_,h=>by cases h
 | a::l,b::m,hl,hm,h=>by
  simp only [aqP,List.cons.injEq]at h;have e:=congrArg UInt8.toNat h.1;have ha:=hl a (by simp);have hb:=hm b (by simp);rw [UInt8.toNat_ofNat_of_lt' ha,UInt8.toNat_ofNat_of_lt' hb]at e;rw [e,Hx (fun x hx=>hl x (by simp [hx])) (fun x hx=>hm x (by simp [hx])) h.2]
theorem uJ(l:List Nat)(n:Nat)(h:n≤l.length):dc (sV (aL l) (n:Int))=(aQ l 0 n).map UInt8.ofNat:=by
 rw [Ka];refine List.ext_getElem (by simp [aQ];omega) fun i h1 h2=>?_
 simp only [List.length_map,List.length_range,aqD]at h1;simp only [aQ,List.getElem_map,List.getElem_range,List.drop_zero,List.getElem_take];rw [iF (by omega),aqD]
theorem PJ{l m:List Nat}(hl: ∀x∈l,x<256)(hm: ∀x∈m,x<256):(l.map UInt8.ofNat==m.map UInt8.ofNat)=(l==m):=by
 rw [Bool.eq_iff_iff,beq_iff_eq,beq_iff_eq];exact⟨Hx hl hm,fun h=>by rw [h]⟩
theorem Lf(v0 v1:V1)(l m:List Nat)(hl: ∀x∈l,x<256)(hm: ∀x∈m,x<256):aq aqQ 43 [v0.v,v1.v] [aT false v0.v l,aT false v1.v m] fun r hs=>hs=[]∧r= .bool (l==m):=by
 refine aq.post (Wy (fun r _=>r= .bool (l==m)) (l.length:Int) (m.length:Int) (aL l) (aL m) v0 v1 ?_) ?_
 ·unfold OG;rw [uJ l l.length (Nat.le_refl _),uJ m m.length (Nat.le_refl _),oQ,oQ,PJ hl hm]
 ·rintro r hs rfl;exact⟨[],bJ.sub (List.nil_sublist _),rfl,rfl⟩
set_option maxRecDepth 100000 in
set_option maxHeartbeats 4000000 in
theorem Hy(v:V1)(l:List Nat)(hl:fX l):aq aqQ 17 [v.v] [aT false v.v l] fun r hs=>
  (∀S,gH l=some S→∃(u1 u2 u3 u4 u5 u6 u7:V1) (C:Nat→Int) (H:HP),r= .tuple #[.agg (jO S u1.v u2.v u3.v u4.v u5.v u6.v u7.v).toArray,.int .i64 0]∧hs=H::fj true S C u1.v u2.v u3.v u4.v u5.v u6.v u7.v∧H.wr=true∧ob (HP.look H) S.table.bA C)∧
  (gH l=none→r= .tuple #[.agg Rx.toArray,.int .i64 (if 4194304<l.length then 3 else 9)]∧hs=[]):=by
 refine aq.post (Sv (fun r hs=>(∀S,gH l=some S→∃(u1 u2 u3 u4 u5 u6 u7:V1) (C:Nat→Int) (H:HP),r= .tuple #[.agg (jO S u1.v u2.v u3.v u4.v u5.v u6.v u7.v).toArray,.int .i64 0]∧List.Sublist (H::fj true S C u1.v u2.v u3.v u4.v u5.v u6.v u7.v) hs∧H.wr=true∧ob (HP.look H) S.table.bA C)∧
  (gH l=none→r= .tuple #[.agg Rx.toArray,.int .i64 (if 4194304<l.length then 3 else 9)])) (l.length:Int) (aL l) v ?_) ?_
 rotate_left
 ·rintro r hs ⟨h1,h2⟩;cases h:gH l with
  | none=>exact⟨[],bJ.sub (List.nil_sublist _),fun S h'=>(by cases h'),fun _=>⟨h2 h,rfl⟩⟩
  | some S=>
   obtain⟨u1,u2,u3,u4,u5,u6,u7,C,H,h3,h4,h5⟩:=h1 S h;refine⟨_,bJ.sub h4,fun S' h'=>?_,fun h'=>by cases h'⟩;cases h';exact⟨u1,u2,u3,u4,u5,u6,u7,C,H,h3,rfl,h5⟩
 have no: ∀{e:Int} {hs:List HP} (_:gH l=none) (_:e=if 4194304<l.length then 3 else 9),(∀S,gH l=some S→∃(u1 u2 u3 u4 u5 u6 u7:V1) (C:Nat→Int) (H:HP),Value.tuple #[.agg Rx.toArray,.int .i64 e]= .tuple #[.agg (jO S u1.v u2.v u3.v u4.v u5.v u6.v u7.v).toArray,.int .i64 0]∧List.Sublist (H::fj true S C u1.v u2.v u3.v u4.v u5.v u6.v u7.v) hs∧H.wr=true∧ob (HP.look H) S.table.bA C)∧
  (gH l=none→Value.tuple #[.agg Rx.toArray,.int .i64 e]= .tuple #[.agg Rx.toArray,.int .i64 (if 4194304<l.length then 3 else 9)]):=fun h e=>⟨fun S h'=>(by rw [h]at h';cases h'),fun _=>by rw [e]⟩
 have nt: ∀(_: ¬(l.length≤4194304∧vS l∧zC l∧(oe l).2=some []∧lL (oe l).1 (oe l).1.table.most ((oe l).1.call.hJ - 1)=true)),gH l=none:=fun h=>if_neg h
 have mag:6≤l.length→(dc (sV (aL l) 6)=dc (Mr [6,72,76,83,84,0,1])↔aQ l 0 6=eh):=by
  intro h6;have e1:dc (sV (aL l) 6)=(aQ l 0 6).map UInt8.ofNat:=uJ l 6 h6;have e2:dc (Mr [6,72,76,83,84,0,1])=eh.map UInt8.ofNat:=by decide
  rw [e1,e2];exact⟨Hx (oP hl.b) (by decide),fun h=>by rw [h]⟩
 unfold IK;intro b0 b1;have hn:=hl.n
 iterate 3 refine⟨by omega,fun _=>?_⟩
 refine⟨fun h=>?_,fun h=>?_⟩
 ·exact no (nt fun h'=>by omega) (by rw [if_pos (by omega)])
 have h9:(9:Int)=if 4194304<l.length then 3 else 9:=by rw [if_neg (by omega)]
 refine⟨by omega,fun _=>⟨by omega,fun _=>⟨fun h2=>?_,fun h2=>?_⟩⟩⟩
 ·refine no (nt fun h'=>?_) h9;obtain⟨_,⟨h3,h4⟩,_⟩:=h';rcases h2 with h2 | h2
  ·omega
  ·exact h2 ((mag (by omega)).2 h4)
 have hd:vS l:=⟨by omega,(mag (by omega)).1 (Decidable.not_not.1 fun h'=>h2 (.inr h'))⟩;have h18:=hd.1;refine⟨by omega,fun _=>?_⟩;intro b2;refine⟨fun e=>e=⟨[],[⟨aE 1 v.v 6 10 none,bT 1 v.v 6 10 none⟩],[4],[aL (aQ l 6 10)],[],[HP.emp],[]⟩,fun w Fs ho=>?_,?_⟩
 ·refine⟨⟨aE 1 v.v 6 10 none,bT 1 v.v 6 10 none⟩,4,aL (aQ l 6 10),HP.emp,?_,rfl⟩;have h5:=bJ.front (A:=[ak b2 true ([.bool false,(aE 1 v.v 6 10 none),.bool false])]) (zD (x:=v.v) (l:=l) (lo:=6) (hi:=10) (by omega) (by omega)) w Fs ho;have e4:(aQ l 6 10).length=ag 4:=c_ (by omega) (by omega);rw [show aT false (aE 1 v.v 6 10 none) (aQ l 6 10)=aB false 5 1 (aE 1 v.v 6 10 none) (ag 4) (aK (ag 4) [aC .u8 1 (aL (aQ l 6 10))])from congrArg (fun n=>aB false 5 1 (aE 1 v.v 6 10 none) n (aK n [aC .u8 1 (aL (aQ l 6 10))])) e4]at h5;exact h5
 rintro v1 x1 A1 p0 he;simp only [Ext.mk.injEq,List.cons.injEq,and_true,true_and]at he;obtain⟨rfl,rfl,rfl,rfl⟩:=he;refine⟨by omega,fun _=>⟨by omega,fun _=>?_⟩⟩;intro b3;have en:ag ((l.length:Int) - 8)=l.length - 8:=by omega
 rw [en];have vl:aq aqQ 22 [.slice (some ⟨b3,0,none⟩) 1 1] ([ak b3 true ([aE 1 v.v 0 (l.length - 8) none])]++[aT false v.v l]) fun r hs=>r= .agg (aj .u8 32 (aL (dZ (aQ l 0 (l.length - 8))))).toArray∧hs=[ak b3 true ([aE 1 v.v 0 (l.length - 8) none]),aT false v.v l]:=by
  have h1:aq aqQ 22 [.slice (some ⟨b3,0,none⟩) 1 1] ([ak b3 true [aE 1 v.v 0 (l.length - 8) none]]++[aT false (aE 1 v.v 0 (l.length - 8) none) (aQ l 0 (l.length - 8))]) fun r hs=>r= .agg (aj .u8 32 (aL (dZ (aQ l 0 (l.length - 8))))).toArray∧hs=[ak b3 true [aE 1 v.v 0 (l.length - 8) none]]:=by
   refine aq.post (E6 b3 ⟨aE 1 v.v 0 (l.length - 8) none,bT _ _ _ _ _⟩ (aQ l 0 (l.length - 8)) (oP hl.b) (by rw [c_ (by omega) (by omega)];omega)) ?_;rintro r hs ⟨rfl,rfl⟩;exact⟨_,bJ.sub (.cons_cons _ (.cons _ .slnil)),rfl,rfl⟩
  refine aq.post (aq.Cg (B:=[aT false v.v l]) h1 ?_ ?_) ?_
  ·rintro _ hs ⟨_,rfl⟩ x hx;rw [aqx.1 hx];rfl
  ·intro x hx;rw [aqx.1 hx];exact pD (bc.self rfl) (by omega) (by omega)
  ·rintro r hs ⟨xQ,⟨rfl,rfl⟩,rfl⟩;exact⟨_,bJ.refl _,rfl,rfl⟩
 refine⟨_,vl,?_⟩;rintro x kT ⟨rfl,rfl⟩;refine⟨aL (dZ (aQ l 0 (l.length - 8))),by rw [show∀l:List Value,aqk l []=l from List.append_nil],rfl,?_⟩;intro b4;refine⟨by omega,fun _=>⟨by omega,fun _=>?_⟩⟩;refine bd (q:=false) (l:=aQ l 6 10) 4 (.inr (.inl ⟨rfl,rfl⟩)) rfl (uI hl) cd.rfl (by rw [c_ (by omega) (by omega)];rfl) fun v2 q0 l2 Qo J3 DS=>?_
 have ex:((num 4).bz (bZ false (aQ l 6 10))).1=iI (aQ l 6 10):=by
  have h4:(aQ l 6 10).length=4:=c_ (by omega) (by omega);simp only [num,bZ,Bool.false_eq_true,if_false,take,h4,Nat.le_refl,if_true,Option.elim];rw [List.take_of_length_le (by omega)]
 have ew:ae .u64 ((l.length:Int) - 8 - 10)=((l.length - 18:Nat):Int):=by
  rw [show((l.length:Int) - 8 - 10)=((l.length - 18:Nat):Int) by omega];exact iz (by omega)
 rw [ex,ew];refine⟨.inr (by omega),fun _=>⟨.inr (by omega),fun _=>⟨fun h3=>?_,fun h3=>?_⟩⟩⟩;rotate_left
 ·exact no (nt fun h'=>h3 (by have:=h'.2.2.1.1;omega)) h9
 obtain⟨sh,w6⟩: ∃sh,sh=dZ (aQ l 0 (l.length - 8)):=⟨_,rfl⟩;have l32:sh.length=32:=by rw [w6,cm]
 have sh8: ∀x∈sh.take 8,x<256:=fun x hx=>CL _ x (by rw [←w6];exact List.mem_of_mem_take hx)
 rw [←w6];have rL:bc [ak b4 true (aj .u8 32 (aL sh))] (aT false (.slice (some ⟨b4,0,none⟩) 8 32) (sh.take 8)):=by
  have:=bc.row (t:=5) (b:=b4) (wr:=true) (lo:=0) (n:=8) (m:=32) (cs:=aj .u8 32 (aL sh)) (by simp [aD]) (by omega);rw [List.drop_zero,fM .u8 32 8 _ (by omega)]at this;have e8:(sh.take 8).length=8:=by rw [List.length_take,l32];rfl
  have et:aK (sh.take 8).length [aC .u8 1 (aL (sh.take 8))]=aj .u8 8 (aL sh):=by
   rw [uu,e8];exact fq fun j hj=>by rw [iF (by omega),iF (by omega),List.getElem_take]
  rw [show aT false (.slice (some ⟨b4,0,none⟩) 8 32) (sh.take 8)=aB false 5 1 (.slice (some ⟨b4,0,none⟩) 8 32) 8 (aj .u8 8 (aL sh)) by rw [aT,et,e8]];exact this
 have heq:=nH (B:=[ak b4 true (aj .u8 32 (aL sh)),aT false v.v l]) (Lf ⟨.slice (some ⟨b4,0,none⟩) 8 32,rfl⟩ ⟨aE 1 v.v (l.length - 8) l.length none,bT _ _ _ _ _⟩ (sh.take 8) (aQ l (l.length - 8) l.length) sh8 (oP hl.b)) (by
  intro h hh;rcases List.mem_cons.1 hh with rfl | hh
  ·exact bc.left (C:=[aT false v.v l]) rL
  ·rw [aqx.1 hh];exact pD (bc.right (A:=[ak b4 true (aj .u8 32 (aL sh))]) (bc.self rfl)) (by omega) (Nat.le_refl _))
 rw [show ag (l.length:Int)=l.length from aqD _,show∀l:List Value,aqk l []=l from List.append_nil];refine⟨_,heq,?_⟩;rintro x kT ⟨rfl,rfl⟩;refine⟨_,rfl,rfl,fun h4=>?_,fun h4=>?_⟩
 ·exact no (nt fun h'=>h4 (by rw [w6,h'.2.2.1.2];simp)) h9
 have h4:sh.take 8=aQ l (l.length - 8) l.length:=by simpa using h4
 have hso:zC l:=⟨by omega,by rw [←w6];exact h4⟩;refine⟨by omega,fun _=>?_⟩;intro b5;obtain⟨m,hm⟩: ∃m,m=aQ l 10 (l.length - 8):=⟨_,rfl⟩;have Yu:m.length=l.length - 8 - 10:=by rw [hm];exact c_ (by omega) (by omega)
 have hmo:fX m:=by rw [hm];exact uI hl
 refine⟨fun e=>e=⟨[],[⟨aE 1 v.v 10 (l.length - 8) none,bT 1 v.v 10 _ none⟩],[(m.length:Int)],[aL m],[],[HP.none],[]⟩,fun w Fs ho=>?_,?_⟩
 ·refine⟨⟨aE 1 v.v 10 (l.length - 8) none,bT 1 v.v 10 _ none⟩,(m.length:Int),aL m,HP.none,?_,rfl⟩;have h5:=(bJ.front (A:=[ak b5 true ([.bool false,(aE 1 v.v 10 (l.length - 8) none),.bool false])]) (bJ.trans (zD (x:=v.v) (l:=l) (lo:=10) (hi:=l.length - 8) (by omega) (by omega)) (bJ.front (A:=[aT false v.v l,aT false (aE 1 v.v 10 (l.length - 8) none) (aQ l 10 (l.length - 8))]) bJ.none))) w Fs ho;rw [←hm]at h5;exact h5
 rintro v3 x4 A4 p1 he;simp only [Ext.mk.injEq,List.cons.injEq,and_true,true_and]at he;obtain⟨rfl,rfl,rfl,rfl⟩:=he;obtain⟨S,hS⟩: ∃S,S=(oe l).1:=⟨_,rfl⟩;have Qn:bq.bz (bZ false m)=oe l:=by rw [hm];rfl
 refine⟨_,aaS b5 b1 ⟨aE 1 v.v 10 (l.length - 8) none,bT 1 v.v 10 _ none⟩ false m hmo HP.none rfl S (by rw [Qn,hS]),?_⟩;rintro x kT ⟨rfl,v',u1,u2,u3,u4,u5,u6,u7,q',l',C,H',rfl,Uo,LD,U5,_,hP'⟩;rw [Qn]at Uo;refine⟨v',u1,u2,u3,u4,u5,u6,u7,(l'.length:Int),(S.drawn:Int),(S.table.keys.dev.a:Int),(S.table.keys.dev.d:Int),(S.table.most:Int),(S.call.me.a:Int),(S.call.me.d:Int),(S.call.state:Int),bi S.call.out,(S.call.aX:Int),(S.call.peer.a:Int),(S.call.peer.d:Int),(S.call.hJ:Int) - 1,(S.call.fi:Int),(S.call.cc:Int),(S.call.since:Int),(S.call.heard:Int),(S.call.oa:Int),(S.call.jh:Int),
  (S.table.keys.once.length:Int),(S.table.bA.length:Int),(S.call.dead.length:Int),(S.call.marks.length:Int),(S.call.early.length:Int),(S.log.length:Int),(S.aO.length:Int),
  aL l',aL S.oN,aL S.table.keys.ident,aL S.table.keys.signed,aL S.call.d_,aL S.call.id,aL S.call.own,aL S.call.ef,aL S.call.jg,cu dx.id S.table.keys.once,dV dx.dY S.table.keys.once,cu (fun p:fp=>p.dev.a) S.table.bA,cu (fun p:fp=>p.dev.d) S.table.bA,C,dV (fun x=>x) S.call.dead,aL S.call.marks,cu jW.a S.call.early,cu jW.d S.call.early,aL S.log,dV Room.id S.aO,cu Room.aX S.aO,jm Room.out S.aO,cu Room.since S.aO,q',H',rfl,rfl,?_⟩
 refine⟨.inr (by omega),fun _=>⟨fun h6=>?_,fun h6=>?_⟩⟩;rotate_left
 ·refine no (nt fun h'=>h6 ?_) h9;rw [h'.2.2.2.1]at Uo;cases q' with
  | true=>cases Uo
  | false=>
   have:l'=[]:=by simpa [bZ] using Uo
   subst this;simp
 have S7:(oe l).2=some []:=by
  rw [←Uo];have h7:q'=false:=by cases q' with
   | true=>exact absurd (.inl rfl) h6
   | false=>rfl
  have h8:l'=[]:=by
   cases l' with
   | nil=>rfl
   | cons a b=>exact absurd (.inr (by simp)) h6
  rw [h7,h8];rfl
 obtain⟨he,jf⟩:=I0 hl.b S7;rw [←hS,←hm]at he;rw [←hS]at jf;have oc:=nH (B:=fj true S C u1.v u2.v u3.v u4.v u5.v u6.v u7.v++[H']) (vM S (S.table.most:Int) ((S.call.hJ:Int) - 1) u1 u2 u3 u4 u5 u6 u7 C (HP.look H') rfl hP' (m5 jf (by rw [←he];exact hmo))) (by
  intro h hh;rcases aqC.1 hh with hh | hh
  ·refine bc.left ?_;simp only [List.mem_cons,List.not_mem_nil,or_false]at hh;rcases hh with rfl | rfl | rfl | rfl | rfl | rfl | rfl
   ·exact iH (.head _)
   ·exact iH (.tail _ (.head _))
   ·exact iH (.tail _ (.tail _ (.head _)))
   ·exact iH (.tail _ (.tail _ (.tail _ (.head _))))
   ·exact iH (.tail _ (.tail _ (.tail _ (.tail _ (.head _)))))
   ·exact iH (.tail _ (.tail _ (.tail _ (.tail _ (.tail _ (.head _))))))
   ·exact iH (.tail _ (.tail _ (.tail _ (.tail _ (.tail _ (.tail _ (.head _)))))))
  ·rw [aqx.1 hh];exact bc.right bc.look)
 refine⟨_,oc,?_⟩;rintro x kT ⟨rfl,rfl⟩;refine⟨_,rfl,rfl,fun h7=>?_,fun h7=>?_⟩
 ·exact no (nt fun h'=>h7 (by rw [hS];exact h'.2.2.2.2)) h9
 have h7:lL S (S.table.most:Int) ((S.call.hJ:Int) - 1)=true:=Decidable.not_not.1 h7;have ht:gH l=some S:=by
  unfold gH;rw [if_pos ⟨by omega,hd,hso,S7,by rw [←hS];exact h7⟩,hS]
 refine⟨fun S' h'=>?_,fun h'=>by rw [ht]at h';cases h'⟩;rw [ht]at h';cases h';exact⟨u1,u2,u3,u4,u5,u6,u7,C,H',rfl,.cons _ (List.Sublist.refl _),U5,hP'⟩
open Go Go.RX Go.Proofs Go.Vs
theorem Lg:(nZ QG 20 [] [] {} Tryz.f20).leaf zo []=true:=
 F.jG _ [] (F.jG _ [false] (F.jG _ [false,false] (F.jG _ [false,false,false] GZ G0) (F.jG _ [false,false,true] G1 G2)) (F.jG _ [false,true] KL KM)) (F.jG _ [true] OE OF)
theorem Lh{ρ:Env}{v:Value}{cs:List bL}(h:GY cs=true):aB true 93 33 v 1 (aF ρ 1 cs)=CC true v hU:=by
 unfold GY at h;split at h
 ·rename_i a b;simp only [ai,beq_iff_eq,aqn,aqE]at h;obtain⟨h1,h2⟩:=h;have e1:=bU (ρ:=ρ) h1;rw [cJ]at e1;have e2: ∀j,j<32→b.den ρ j=((if j=0 then 4 else 0:Nat):Int):=fun j hj=>by
   have:=bU (ρ:=ρ) (h2 j hj);rw [cJ]at this;have e0:(E.den ρ (.lit (j:Int)) 0).toNat=j:=by simp [E.den]
   rwa [e0]at this
  have e3: ∀j,j<32→b.den ρ j=dV dx.dY hU j:=fun j hj=>by
   rw [e2 j hj];show _=((((4::List.replicate 31 0:List Nat)++[]).getD j 0:Nat):Int)
   match j,hj with
   | 0,_=>rfl
   | j+1,hj=>
    have:((4::List.replicate 31 0:List Nat)++[]).getD (j+1) 0=0:=by
     rw [List.append_nil,List.getD_cons_succ,aqN,List.getElem?_replicate];split<;>rfl
    rw [this];rfl
  refine congrArg (aB true 93 33 v 1) ?_;show aC .u32 1 (a.den ρ) 0++(aC .u8 32 (b.den ρ) 0++[])++[]=aC .u32 1 (cu dx.id hU) 0++(aC .u8 32 (dV dx.dY hU) 0++[])++[];have c1:aC .u32 1 (a.den ρ) 0=aC .u32 1 (cu dx.id hU) 0:=by
   unfold aC;refine List.map_congr_left fun j hj=>?_
   have hj:=aqE.1 hj;dsimp only;rw [show 0*1+j=0 by omega];exact congrArg (Value.int .u32) e1
  have c2:aC .u8 32 (b.den ρ) 0=aC .u8 32 (dV dx.dY hU) 0:=by
   unfold aC;refine List.map_congr_left fun j hj=>?_
   have hj:=aqE.1 hj;dsimp only;rw [show 0*32+j=j by omega,e3 j hj]
  rw [c1,c2]
 ·cases h
theorem Hz(u:SV)(hp:List Ck)(ρ:Env)(h:zo u hp=true): ∃(o:List dx) (v:V1),u.val ρ= .agg (jO (plain o) v.v bg.v bg.v bg.v bg.v bg.v bg.v).toArray∧(o=[]∧v=bg∨o=hU∧(hp.map (Ck.den ρ))[1]? =some (CC true v.v hU)):=by
 unfold zo at h;split at h
 ·rename_i cs;simp only [ai]at h;obtain⟨⟨h1,h2⟩,h3⟩:=h;have key: ∀x,(gK cs)[99]? =some x→SV.cells ρ x=[x.val ρ]→SV.val ρ (.agg cs)= .agg (SV.ao ρ plA++x.val ρ::SV.ao ρ plB).toArray:=by
   intro x hx hc;obtain⟨hl,hg⟩:=aqo.1 hx;have e:gK cs=(gK cs).take 99++x::(gK cs).drop 100:=by
    rw [←hg,List.getElem_cons_drop,List.take_append_drop]
   have:SV.ao ρ cs=SV.ao ρ plA++x.val ρ::SV.ao ρ plB:=by
    rw [←fO,e,hY,cb h1];show _++(SV.cells ρ x++SV.ao ρ _)=_;rw [hc,cb h2];rfl
   rw [SV.val,this]
  split at h3
  ·rename_i hx;exact⟨[],bg,by rw [key _ hx rfl];exact congrArg (fun l=>Value.agg l.toArray) (BA ρ [] _),.inl ⟨rfl,rfl⟩⟩
  ·rename_i k hx;split at h3
   ·rename_i c k' n ay;simp only [ai,beq_iff_eq]at h3;obtain⟨⟨rfl,hn⟩,hc⟩:=h3;have en:=bU (ρ:=ρ) hn;refine⟨hU,ρ.vv.getD k V1.nil,by rw [key _ hx rfl];exact congrArg (fun l=>Value.agg l.toArray) (BA ρ hU _),.inr ⟨rfl,?_⟩⟩;show some (aB true 93 33 (ρ.vv.getD k V1.nil).v (n.den ρ 0).toNat (aF ρ (n.den ρ 0).toNat ay))=_;rw [en];exact congrArg some (Lh hc)
   ·cases h3
  ·cases h3
 ·cases h
theorem bJ.app{a b:List HP}(h:bJ [] b):bJ a (a++b):=by
 have:=bJ.front (A:=a) h
 rwa [List.append_nil]at this
theorem bJ.uK{b c:List HP}(h1:bJ [] b)(h2:bJ [] c):bJ [] (b++c):=bJ.trans h1 (bJ.app h2)
theorem E9:aq aqQ 20 [] [] fun r hs=> ∃(o:List dx) (v:V1),(o=[]∨o=hU)∧r= .agg (jO (plain o) v.v bg.v bg.v bg.v bg.v bg.v bg.v).toArray∧hs=fj true (plain o) (fun _=>0) v.v bg.v bg.v bg.v bg.v bg.v bg.v++[HP.none]:=by
 have hm:=aq.GC (C:=QG) (al:=fun u hs=> ∃(o:List dx) (v:V1),u= .agg (jO (plain o) v.v bg.v bg.v bg.v bg.v bg.v bg.v).toArray∧(o=[]∧v=bg∨o=hU∧hs[1]? =some (CC true v.v hU))) (ρ:=y8) (args:=[]) (hp:=[]) (aW:={}) U7 GD U8 Tryz.func20 (by constructor<;>rfl) (F.GX Hz y8 _ Lg) (iu.none rfl);refine aq.post hm ?_;have nl: ∀t s,bJ [] [aB true t s (.slice none 0 0) 0 []]:=bJ.vI;have six:bJ [] ([KG true bg.v [] (fun _=>0),By true bg.v [],aT true bg.v [],Bz true bg.v [],aT true bg.v [],uz true bg.v []]++[HP.none]):=
  bJ.uK (bJ.uK (b:=[_]) (nl 68 3) (bJ.uK (b:=[_]) (nl 36 16) (bJ.uK (b:=[_]) (nl 5 1) (bJ.uK (b:=[_]) (nl 26 2) (bJ.uK (b:=[_]) (nl 5 1) (nl 98 19)))))) bJ.none
 rintro r hs ⟨o,v,rfl,h⟩;rcases h with⟨rfl,rfl⟩ | ⟨rfl,h⟩
 ·exact⟨_,bJ.trans (bJ.sub (List.nil_sublist _)) (bJ.uK (b:=[_]) (nl 93 33) six),[],bg,.inl rfl,rfl,rfl⟩
 ·have h1:bJ hs [CC true v.v hU]:=bJ.idx [1] (by decide) (by
   intro m u hu
   match m,hu with
   | 0,hu=>cases hu;exact⟨1,rfl,h⟩
   | m+1,hu=>simp at hu)
  exact⟨_,bJ.trans h1 (bJ.app six),hU,v,.inr rfl,rfl,rfl⟩
open Go.RX Go.Proofs
noncomputable def ahK:Ctx:={T:=TT,FT:=FT,bj:=Vw.NI,mQ:=Vw.R1}
noncomputable def ahL:Ctx:={T:=TT,FT:=FT,bj:=Vw.NJ}
open Go.RX Go.Proofs
set_option maxRecDepth 100000
def E_(al:PT)(x0:Int)(A0:Nat→Int)(_:V1):Prop:=
 ∀_:Nat,ax (0≤x0) (
 ∀_ _:V1,kE (10+x0) (
 ∀v3:V1,Cl 33 [v3.v,.int .i64 32] [aB true 5 1 v3.v (ag (10+x0)) (aK (ag (10+x0)) [aC .u8 1 (bQ (bQ (aw (aw (aw (aw (aw (aw (fun _=>0) 0 72) 1 76) 2 83) 3 84) 4 0) 5 1) 6 4 (aw (aw (aw (aw (fun _=>0) 3 (ae .u8 (ar .rem .u64 (ae .u64 x0) 256))) 2 (ae .u8 (ar .rem .u64 (ae .u64 (ar .quo .u64 (ae .u64 x0) 256)) 256))) 1 (ae .u8 (ar .rem .u64 (ae .u64 (ar .quo .u64 (ae .u64 (ar .quo .u64 (ae .u64 x0) 256)) 256)) 256))) 0 (ae .u8 (ar .rem .u64 (ae .u64 (ar .quo .u64 (ae .u64 (ar .quo .u64 (ae .u64 (ar .quo .u64 (ae .u64 x0) 256)) 256)) 256)) 256)))) 10 (ag x0) A0)])] fun x hs l=> ∃(v4:V1) (A1:Nat→Int),x=v4.v∧hs=l++[aB true 5 1 v4.v 32 (aK 32 [aC .u8 1 A1])]∧
 ax (0≤(10+x0)) (
 kE ((10+x0)+8) (
 ∀v5:V1,al (v5.v) [aB true 5 1 v5.v (ag ((10+x0)+8)) (aK (ag ((10+x0)+8)) [aC .u8 1 (bQ (bQ (bQ (aw (aw (aw (aw (aw (aw (fun _=>0) 0 72) 1 76) 2 83) 3 84) 4 0) 5 1) 6 4 (aw (aw (aw (aw (fun _=>0) 3 (ae .u8 (ar .rem .u64 (ae .u64 x0) 256))) 2 (ae .u8 (ar .rem .u64 (ae .u64 (ar .quo .u64 (ae .u64 x0) 256)) 256))) 1 (ae .u8 (ar .rem .u64 (ae .u64 (ar .quo .u64 (ae .u64 (ar .quo .u64 (ae .u64 x0) 256)) 256)) 256))) 0 (ae .u8 (ar .rem .u64 (ae .u64 (ar .quo .u64 (ae .u64 (ar .quo .u64 (ae .u64 (ar .quo .u64 (ae .u64 x0) 256)) 256)) 256)) 256)))) 10 (ag x0) A0) (ag (10+x0)) 8 A1)])]))))
theorem PK(al:PT)(x0:Int)(A0:Nat→Int)(v0:V1)(h:E_ al x0 A0 v0):aq aqQ 14 [v0.v] [bf v0 x0 A0] al:=
 xp (C:=ahK) Vt.NG Vt.GL Vt.Co ⟨[x0],[A0],[],[],[v0],[],[],[]⟩ Tryz.func14 (by kernel_rfl) h
def Fa(al:PT)(x0:Int)(A0:Nat→Int)(v0:V1):Prop:=
 ax (0≤x0) (
 br (x0<18) (
 al (.tuple #[.slice none 0 0,.bool false]) []) (
 iQ (x0 - 8) ((
 ax (10≤(x0 - 8)) (
 ax ((x0 - 8)≤x0) (
 Cl 14 [(aE 1 v0.v 10 (ag (x0 - 8)) none)] [bf v0 x0 A0] fun x hs l=> ∃(v1:V1) (x1:Int) (A1:Nat→Int),x=v1.v∧hs=l++[bp v1 x1 A1]∧
 al (.tuple #[(aE 1 v0.v 10 (ag (x0 - 8)) none),.bool (dc (sV A1 x1)==dc (sV A0 x0))]) []))))))
theorem PL(al:PT)(x0:Int)(A0:Nat→Int)(v0:V1)(h:Fa al x0 A0 v0):aq aqQ 18 [v0.v] [bf v0 x0 A0] al:=
 sW (C:=ahL) Vt.NG Vt.GL Vt.Co ⟨[x0],[A0],[],[],[v0],[],[],[]⟩ 0 Tryz.func18 (by kernel_rfl) h
end Go.RX.Vb

namespace Go.RX.Fn
open Go.RX Go.RX.Fe Go.RX.Fg Go.RX.Fi Go.RX.Fj Go.RX.Fk Go.RX.Fl Go.RX.Fm
def cL(a:Nat):List bL:=[⟨.int .u64,1,.cI a⟩]
def yf(ck:Ck)(h:List Ck):List Ck:=
 match h.reverse.findIdx? (fun | .cr .. =>true | _=>false)with
 | some i=>(h.reverse.set i ck).reverse
 | none=>[]
def CN(cs:List SV):List Ck→List Ck
 | []=>[]
 | .row b w x::r=>if SV.o3 x=8 then .row b w cs::r else .row b w x::CN cs r
 | c::r=>c::CN cs r
def abv:List SV→List Ck→SV
 | [.int _ (.lit n)],_=> .int .u64 (.lit (2^n.toNat))
 | _,_=> .undef
def abw:aI:={use:=fun _ _=>[],val:=fun _=> .undef,new:=fun _ _=>[],valOf:=some abv}
def four:aI:={use:=fun _ _=>[],inc:={i:=1},val:=fun c=> .int .u64 (.var c.i),new:=fun _ _=>[]}
def ahM(n:E):aI:={use:=fun az hp=>roots hp az,inc:={v:=1,a:=1},val:=fun c=> .vv c.v,new:=fun c h=>h++[.cr true c.v 24 1 n (cL c.a)]}
def bj(f:Nat):Option aI:=
 match f with
 | 61=>some abw
 | 64=>some four
 | 65=>some {use:=fun az hp=>roots hp az,inc:={v:=1,a:=1},val:=fun c=> .vv c.v,new:=fun c _=>[.cr true c.v 24 1 (.lit 8) (cL c.a)]}
 | 60=>some (ahM (.lit 80))
 | 62=>some Pv
 | 33=>some (makes fun _ _=> .lit 32)
 | _=>none
def loops(f id:Nat):Option ei:=
 match f,id with
 | 61,0=>some {inc:={i:=2},aU:=fun c=>[(3,.int .u64 (.var c.i)),(4,.int .i64 (.var (c.i+1)))],hp:=fun _ h=>h}
 | 33,2=>some {inc:={i:=9},aU:=fun c=>[(11,.int .i64 (.var (c.i+8)))],hp:=fun c h=>CN (ints .u64 c.i 8) h}
 | 33,4=>some {pre:=[.slot 12 24],inc:={i:=1,v:=1,a:=1},aU:=fun c=>[(13,.int .i64 (.var c.i)),(12,.vv c.v)],hp:=fun c h=>yf (.cr true c.v 24 1 (.var c.i) (cL c.a)) h}
 | 33,14=>some {pre:=[.slot 20 5],inc:={i:=2,v:=1,a:=2},aU:=fun c=>[(21,.int .i64 (.var c.i)),(20,.vv c.v)],hp:=fun c h=>CN [.cQ .u64 8 (.cI (c.a+1))] (yf (.cr true c.v 5 1 (.var (c.i+1)) (cB c.a)) h)}
 | 33,8=>some {inc:={i:=1,v:=1,a:=1},aU:=fun c=>[(16,.int .i64 (.var c.i)),(12,.vv c.v)],hp:=fun c h=>yf (.cr true c.v 24 1 (.var c.i) (cL c.a)) h}
 | 33,10=>some {inc:={i:=1,v:=1,a:=1},aU:=fun c=>[(18,.int .i64 (.var c.i)),(17,.vv c.v)],hp:=fun c h=>yf (.cr true c.v 24 1 (.lit 8) (cL c.a)) h}
 | 62,0=>some {back:=[.swap 5 1],inc:={i:=1,a:=1,v:=1},aU:=fun c=>[(5,.vv c.v)],hp:=fun c h=>Pu 1 c.v (.var c.i) c.a h}
 | _,_=>none
end Go.RX.Fn
