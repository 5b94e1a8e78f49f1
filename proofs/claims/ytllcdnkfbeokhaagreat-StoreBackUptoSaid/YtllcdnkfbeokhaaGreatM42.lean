/- A state is taken. -/
import Derived.Test.YtllcdnkfbeokhaaGreatM41
open Bool renaming and_eq_true → ai
open Go.IntKind renaming wrap → ae
open Go.Proofs.Tryz renaming prog → auN
open Int renaming toNat → ag, toNat_natCast → auD
open List renaming all_eq_true → auo, append → aul, getD_eq_getElem?_getD → auO, getElem?_eq_some_iff → aup, length_map → auJ, map_cons → auK, mem_append → auE, mem_range → auG, mem_singleton → auz
namespace Go.RX.Vb
open Go Go.RX Go.Proofs Go.Vs
theorem abh{x:Value}{l:List Nat}{lo hi:Nat}(h1:lo≤hi)(h2:hi≤l.length):aR false (aF 1 x lo hi none) (aT l lo hi)=aB false 5 1 (aF 1 x lo hi none) (hi - lo) (((aM l.length [ay .u8 1 (aI l)]).drop (lo*1)).take ((hi - lo)*1)):=by
 rw [GC l lo (hi - lo) (by omega)];exact congrArg (fun n=>aB false 5 1 (aF 1 x lo hi none) n (aM (aT l lo hi).length [ay .u8 1 (aI (aT l lo hi))])) (c_ h1 h2)
theorem lO{B:List HP}{x:Value}{l:List Nat}{lo hi:Nat}(hb:bc B (aR false x l))(h1:lo≤hi)(h2:hi≤l.length):bc B (aR false (aF 1 x lo hi none) (aT l lo hi)):=by
 rw [abh h1 h2];exact bc.sub (mx:=none) hb h1 h2 fun m h=>by cases h
def HP.none:HP:=⟨true,fun _ S=> ∀k,¬S k,fun _ _ _ h _=>h⟩
def HP.look(H:HP):HP:=⟨false,H.p,H.fh⟩
theorem bc.look{H:HP}:bc [H] (HP.look H):=⟨rfl,fun _ _ hS=>⟨_,(hS.at_ 0 _ rfl).1,fun _ hk=>⟨0,by simp,hk⟩⟩⟩
theorem bI.none:bI [] [HP.none]:=by
 intro w Fs ⟨S,hS⟩;refine⟨fun i=>match i with | 0=>fun _=>False | i+1=>S i,⟨?_,?_⟩⟩
 ·intro i x hx
  match i,hx with
  | 0,hx=>
   simp at hx;subst hx;exact⟨fun k h=>h,fun k h=>h.elim⟩
  | i+1,hx=>exact hS.at_ i x (by simpa using hx)
 ·intro i j x y fy hx hy hw k
  match i,j,fy,hx,hy with
  | 0,_,_,_,_=>exact fun h=>h.elim
  | i+1,0,_,_,_=>exact fun _ h=>h
  | i+1,j+1,fy,hx,hy=>exact hS.apart i j x y (by omega) (by simpa using hx) (by simpa using hy) hw k
theorem jb{B:List HP}{t s n:Nat}{v:Value}{cs:List Value}(hm:aB true t s v n cs∈B):bc B (aB false t s v n cs):=by
 obtain⟨a,b,rfl⟩:=List.append_of_mem hm;have:=bc.mid (A:=a) (C:=b) (bc.own (t:=t) (s:=s) (n:=n) (v:=v) (cs:=cs))
 rwa [List.append_assoc]at this
theorem Be{x:Value}{l:List Nat}{lo hi:Nat}(h1:lo≤hi)(h2:hi≤l.length):bI [aR false x l] [aR false x l,aR false (aF 1 x lo hi none) (aT l lo hi)]:=
 bI.trans (bI.dup rfl []) (bI.view (mx:=none) (m:=aT l lo hi) h1 h2 (fun m h=>by cases h) rfl _ 1 rfl)
theorem JQ: ∀{l m:List Nat},(∀x∈l,x<256)→(∀x∈m,x<256)→l.map UInt8.ofNat=m.map UInt8.ofNat→l=m
 | [],[],_,_,_=>rfl
 | [],_::_,_,_,h=>by cases h
 | _::_,[],_,_,h=>by cases h
 | a::l,b::m,hl,hm,h=>by
  simp only [auK,List.cons.injEq]at h;have e:=congrArg UInt8.toNat h.1;have ha:=hl a (by simp);have hb:=hm b (by simp);rw [UInt8.toNat_ofNat_of_lt' ha,UInt8.toNat_ofNat_of_lt' hb]at e;rw [e,JQ (fun x hx=>hl x (by simp [hx])) (fun x hx=>hm x (by simp [hx])) h.2]
theorem wj(l:List Nat)(n:Nat)(h:n≤l.length):dC (uv (aI l) (n:Int))=(aT l 0 n).map UInt8.ofNat:=by
 rw [M5];refine List.ext_getElem (by simp [aT];omega) fun i h1 h2=>?_
 simp only [auJ,List.length_range,auD]at h1;simp only [aT,List.getElem_map,List.getElem_range,List.drop_zero,List.getElem_take];rw [gj (by omega),auD]
theorem SU{l m:List Nat}(hl: ∀x∈l,x<256)(hm: ∀x∈m,x<256):(l.map UInt8.ofNat==m.map UInt8.ofNat)=(l==m):=by
 rw [Bool.eq_iff_iff,beq_iff_eq,beq_iff_eq];exact⟨JQ hl hm,fun h=>by rw [h]⟩
theorem Ot(v0 v1:V1)(l m:List Nat)(hl: ∀x∈l,x<256)(hm: ∀x∈m,x<256):aq auN 43 [v0.v,v1.v] [aR false v0.v l,aR false v1.v m] fun r hs=>hs=[]∧r= .bool (l==m):=by
 refine aq.post (aac (fun r _=>r= .bool (l==m)) (l.length:Int) (m.length:Int) (aI l) (aI m) v0 v1 ?_) ?_
 ·unfold RQ;rw [wj l l.length (Nat.le_refl _),wj m m.length (Nat.le_refl _),pJ,pJ,SU hl hm]
 ·rintro r hs rfl;exact⟨[],bI.sub (List.nil_sublist _),rfl,rfl⟩
set_option maxRecDepth 100000 in
set_option maxHeartbeats 4000000 in
theorem JR(v:V1)(l:List Nat)(hl:fL l):aq auN 17 [v.v] [aR false v.v l] fun r hs=>
  (∀S,gK l=some S→∃(u1 u2 u3 u4 u5 u6 u7:V1) (C:Nat→Int) (H:HP),r= .tuple #[.agg (jS S u1.v u2.v u3.v u4.v u5.v u6.v u7.v).toArray,.int .i64 0]∧hs=H::ef true S C u1.v u2.v u3.v u4.v u5.v u6.v u7.v∧H.wr=true∧lg (HP.look H) S.table.aL C)∧
  (gK l=none→r= .tuple #[.agg TR.toArray,.int .i64 (if 4194304<l.length then 3 else 9)]∧hs=[]):=by
 refine aq.post (We (fun r hs=>(∀S,gK l=some S→∃(u1 u2 u3 u4 u5 u6 u7:V1) (C:Nat→Int) (H:HP),r= .tuple #[.agg (jS S u1.v u2.v u3.v u4.v u5.v u6.v u7.v).toArray,.int .i64 0]∧List.Sublist (H::ef true S C u1.v u2.v u3.v u4.v u5.v u6.v u7.v) hs∧H.wr=true∧lg (HP.look H) S.table.aL C)∧
  (gK l=none→r= .tuple #[.agg TR.toArray,.int .i64 (if 4194304<l.length then 3 else 9)])) (l.length:Int) (aI l) v ?_) ?_
 rotate_left
 ·rintro r hs ⟨h1,h2⟩;cases h:gK l with
  | none=>exact⟨[],bI.sub (List.nil_sublist _),fun S h'=>(by cases h'),fun _=>⟨h2 h,rfl⟩⟩
  | some S=>
   obtain⟨u1,u2,u3,u4,u5,u6,u7,C,H,h3,h4,h5⟩:=h1 S h;refine⟨_,bI.sub h4,fun S' h'=>?_,fun h'=>by cases h'⟩;cases h';exact⟨u1,u2,u3,u4,u5,u6,u7,C,H,h3,rfl,h5⟩
 have no: ∀{e:Int} {hs:List HP} (_:gK l=none) (_:e=if 4194304<l.length then 3 else 9),(∀S,gK l=some S→∃(u1 u2 u3 u4 u5 u6 u7:V1) (C:Nat→Int) (H:HP),Value.tuple #[.agg TR.toArray,.int .i64 e]= .tuple #[.agg (jS S u1.v u2.v u3.v u4.v u5.v u6.v u7.v).toArray,.int .i64 0]∧List.Sublist (H::ef true S C u1.v u2.v u3.v u4.v u5.v u6.v u7.v) hs∧H.wr=true∧lg (HP.look H) S.table.aL C)∧
  (gK l=none→Value.tuple #[.agg TR.toArray,.int .i64 e]= .tuple #[.agg TR.toArray,.int .i64 (if 4194304<l.length then 3 else 9)]):=fun h e=>⟨fun S h'=>(by rw [h]at h';cases h'),fun _=>by rw [e]⟩
 have nt: ∀(_: ¬(l.length≤4194304∧xy l∧Bd l∧(o3 l).2=some []∧kf (o3 l).1 (o3 l).1.table.most ((o3 l).1.call.fQ - 1)=true)),gK l=none:=fun h=>if_neg h
 have mag:6≤l.length→(dC (uv (aI l) 6)=dC (PO [6,72,76,83,84,0,1])↔aT l 0 6=eB):=by
  intro h6;have e1:dC (uv (aI l) 6)=(aT l 0 6).map UInt8.ofNat:=wj l 6 h6;have e2:dC (PO [6,72,76,83,84,0,1])=eB.map UInt8.ofNat:=by decide
  rw [e1,e2];exact⟨JQ (nM hl.b) (by decide),fun h=>by rw [h]⟩
 unfold K_;intro b0 b1;have hn:=hl.n
 iterate 3 refine⟨by omega,fun _=>?_⟩
 refine⟨fun h=>?_,fun h=>?_⟩
 ·exact no (nt fun h'=>by omega) (by rw [if_pos (by omega)])
 have h9:(9:Int)=if 4194304<l.length then 3 else 9:=by rw [if_neg (by omega)]
 refine⟨by omega,fun _=>⟨by omega,fun _=>⟨fun h2=>?_,fun h2=>?_⟩⟩⟩
 ·refine no (nt fun h'=>?_) h9;obtain⟨_,⟨h3,h4⟩,_⟩:=h';rcases h2 with h2 | h2
  ·omega
  ·exact h2 ((mag (by omega)).2 h4)
 have hd:xy l:=⟨by omega,(mag (by omega)).1 (Decidable.not_not.1 fun h'=>h2 (.inr h'))⟩;have h18:=hd.1;refine⟨by omega,fun _=>?_⟩;intro b2;refine⟨fun e=>e=⟨[],[⟨aF 1 v.v 6 10 none,bR 1 v.v 6 10 none⟩],[4],[aI (aT l 6 10)],[],[HP.emp],[]⟩,fun w Fs ho=>?_,?_⟩
 ·refine⟨⟨aF 1 v.v 6 10 none,bR 1 v.v 6 10 none⟩,4,aI (aT l 6 10),HP.emp,?_,rfl⟩;have h5:=bI.front (A:=[ak b2 true ([.bool false,(aF 1 v.v 6 10 none),.bool false])]) (Be (x:=v.v) (l:=l) (lo:=6) (hi:=10) (by omega) (by omega)) w Fs ho;have e4:(aT l 6 10).length=ag 4:=c_ (by omega) (by omega);rw [show aR false (aF 1 v.v 6 10 none) (aT l 6 10)=aB false 5 1 (aF 1 v.v 6 10 none) (ag 4) (aM (ag 4) [ay .u8 1 (aI (aT l 6 10))])from congrArg (fun n=>aB false 5 1 (aF 1 v.v 6 10 none) n (aM n [ay .u8 1 (aI (aT l 6 10))])) e4]at h5;exact h5
 rintro v1 x1 A1 p0 he;simp only [Ext.mk.injEq,List.cons.injEq,and_true,true_and]at he;obtain⟨rfl,rfl,rfl,rfl⟩:=he;refine⟨by omega,fun _=>⟨by omega,fun _=>?_⟩⟩;intro b3;have en:ag ((l.length:Int) - 8)=l.length - 8:=by omega
 rw [en];have wV:aq auN 22 [.slice (some ⟨b3,0,none⟩) 1 1] ([ak b3 true ([aF 1 v.v 0 (l.length - 8) none])]++[aR false v.v l]) fun r hs=>r= .agg (aj .u8 32 (aI (eu (aT l 0 (l.length - 8))))).toArray∧hs=[ak b3 true ([aF 1 v.v 0 (l.length - 8) none]),aR false v.v l]:=by
  have h1:aq auN 22 [.slice (some ⟨b3,0,none⟩) 1 1] ([ak b3 true [aF 1 v.v 0 (l.length - 8) none]]++[aR false (aF 1 v.v 0 (l.length - 8) none) (aT l 0 (l.length - 8))]) fun r hs=>r= .agg (aj .u8 32 (aI (eu (aT l 0 (l.length - 8))))).toArray∧hs=[ak b3 true [aF 1 v.v 0 (l.length - 8) none]]:=by
   refine aq.post (Hm b3 ⟨aF 1 v.v 0 (l.length - 8) none,bR _ _ _ _ _⟩ (aT l 0 (l.length - 8)) (nM hl.b) (by rw [c_ (by omega) (by omega)];omega)) ?_;rintro r hs ⟨rfl,rfl⟩;exact⟨_,bI.sub (.cons_cons _ (.cons _ .slnil)),rfl,rfl⟩
  refine aq.post (aq.Co (B:=[aR false v.v l]) h1 ?_ ?_) ?_
  ·rintro _ hs ⟨_,rfl⟩ x hx;rw [auz.1 hx];rfl
  ·intro x hx;rw [auz.1 hx];exact lO (bc.self rfl) (by omega) (by omega)
  ·rintro r hs ⟨yS,⟨rfl,rfl⟩,rfl⟩;exact⟨_,bI.refl _,rfl,rfl⟩
 refine⟨_,wV,?_⟩;rintro x lP ⟨rfl,rfl⟩;refine⟨aI (eu (aT l 0 (l.length - 8))),by rw [show∀l:List Value,aul l []=l from List.append_nil],rfl,?_⟩;intro b4;refine⟨by omega,fun _=>⟨by omega,fun _=>?_⟩⟩;refine bp (q:=false) (l:=aT l 6 10) 4 (.inr (.inl ⟨rfl,rfl⟩)) rfl (sq hl) cj.rfl (by rw [c_ (by omega) (by omega)];rfl) fun v2 q0 l2 MC MW DO=>?_
 have ex:((num 4).bD (cg false (aT l 6 10))).1=jd (aT l 6 10):=by
  have h4:(aT l 6 10).length=4:=c_ (by omega) (by omega);simp only [num,cg,Bool.false_eq_true,if_false,take,h4,Nat.le_refl,if_true,Option.elim];rw [List.take_of_length_le (by omega)]
 have ew:ae .u64 ((l.length:Int) - 8 - 10)=((l.length - 18:Nat):Int):=by
  rw [show((l.length:Int) - 8 - 10)=((l.length - 18:Nat):Int) by omega];exact iV (by omega)
 rw [ex,ew];refine⟨.inr (by omega),fun _=>⟨.inr (by omega),fun _=>⟨fun h3=>?_,fun h3=>?_⟩⟩⟩;rotate_left
 ·exact no (nt fun h'=>h3 (by have:=h'.2.2.1.1;omega)) h9
 obtain⟨sh,yu⟩: ∃sh,sh=eu (aT l 0 (l.length - 8)):=⟨_,rfl⟩;have l32:sh.length=32:=by rw [yu,cm]
 have sh8: ∀x∈sh.take 8,x<256:=fun x hx=>EC _ x (by rw [←yu];exact List.mem_of_mem_take hx)
 rw [←yu];have s6:bc [ak b4 true (aj .u8 32 (aI sh))] (aR false (.slice (some ⟨b4,0,none⟩) 8 32) (sh.take 8)):=by
  have:=bc.row (t:=5) (b:=b4) (wr:=true) (lo:=0) (n:=8) (m:=32) (cs:=aj .u8 32 (aI sh)) (by simp [aE]) (by omega);rw [List.drop_zero,gw .u8 32 8 _ (by omega)]at this;have e8:(sh.take 8).length=8:=by rw [List.length_take,l32];rfl
  have et:aM (sh.take 8).length [ay .u8 1 (aI (sh.take 8))]=aj .u8 8 (aI sh):=by
   rw [vN,e8];exact fR fun j hj=>by rw [gj (by omega),gj (by omega),List.getElem_take]
  rw [show aR false (.slice (some ⟨b4,0,none⟩) 8 32) (sh.take 8)=aB false 5 1 (.slice (some ⟨b4,0,none⟩) 8 32) 8 (aj .u8 8 (aI sh)) by rw [aR,et,e8]];exact this
 have heq:=mi (B:=[ak b4 true (aj .u8 32 (aI sh)),aR false v.v l]) (Ot ⟨.slice (some ⟨b4,0,none⟩) 8 32,rfl⟩ ⟨aF 1 v.v (l.length - 8) l.length none,bR _ _ _ _ _⟩ (sh.take 8) (aT l (l.length - 8) l.length) sh8 (nM hl.b)) (by
  intro h hh;rcases List.mem_cons.1 hh with rfl | hh
  ·exact bc.left (C:=[aR false v.v l]) s6
  ·rw [auz.1 hh];exact lO (bc.right (A:=[ak b4 true (aj .u8 32 (aI sh))]) (bc.self rfl)) (by omega) (Nat.le_refl _))
 rw [show ag (l.length:Int)=l.length from auD _,show∀l:List Value,aul l []=l from List.append_nil];refine⟨_,heq,?_⟩;rintro x lP ⟨rfl,rfl⟩;refine⟨_,rfl,rfl,fun h4=>?_,fun h4=>?_⟩
 ·exact no (nt fun h'=>h4 (by rw [yu,h'.2.2.1.2];simp)) h9
 have h4:sh.take 8=aT l (l.length - 8) l.length:=by simpa using h4
 have YH:Bd l:=⟨by omega,by rw [←yu];exact h4⟩;refine⟨by omega,fun _=>?_⟩;intro b5;obtain⟨m,hm⟩: ∃m,m=aT l 10 (l.length - 8):=⟨_,rfl⟩;have hml:m.length=l.length - 8 - 10:=by rw [hm];exact c_ (by omega) (by omega)
 have hmo:fL m:=by rw [hm];exact sq hl
 refine⟨fun e=>e=⟨[],[⟨aF 1 v.v 10 (l.length - 8) none,bR 1 v.v 10 _ none⟩],[(m.length:Int)],[aI m],[],[HP.none],[]⟩,fun w Fs ho=>?_,?_⟩
 ·refine⟨⟨aF 1 v.v 10 (l.length - 8) none,bR 1 v.v 10 _ none⟩,(m.length:Int),aI m,HP.none,?_,rfl⟩;have h5:=(bI.front (A:=[ak b5 true ([.bool false,(aF 1 v.v 10 (l.length - 8) none),.bool false])]) (bI.trans (Be (x:=v.v) (l:=l) (lo:=10) (hi:=l.length - 8) (by omega) (by omega)) (bI.front (A:=[aR false v.v l,aR false (aF 1 v.v 10 (l.length - 8) none) (aT l 10 (l.length - 8))]) bI.none))) w Fs ho;rw [←hm]at h5;exact h5
 rintro v3 x4 A4 p1 he;simp only [Ext.mk.injEq,List.cons.injEq,and_true,true_and]at he;obtain⟨rfl,rfl,rfl,rfl⟩:=he;obtain⟨S,hS⟩: ∃S,S=(o3 l).1:=⟨_,rfl⟩;have OZ:aZ.bD (cg false m)=o3 l:=by rw [hm];rfl
 refine⟨_,aeB b5 b1 ⟨aF 1 v.v 10 (l.length - 8) none,bR 1 v.v 10 _ none⟩ false m hmo HP.none rfl S (by rw [OZ,hS]),?_⟩;rintro x lP ⟨rfl,v',u1,u2,u3,u4,u5,u6,u7,q',l',C,H',rfl,Yc,OX,YU,_,hP'⟩;rw [OZ]at Yc;refine⟨v',u1,u2,u3,u4,u5,u6,u7,(l'.length:Int),(S.drawn:Int),(S.table.keys.dev.a:Int),(S.table.keys.dev.d:Int),(S.table.most:Int),(S.call.me.a:Int),(S.call.me.d:Int),(S.call.state:Int),bi S.call.out,(S.call.aP:Int),(S.call.peer.a:Int),(S.call.peer.d:Int),(S.call.fQ:Int) - 1,(S.call.eO:Int),(S.call.bV:Int),(S.call.since:Int),(S.call.heard:Int),(S.call.mC:Int),(S.call.hZ:Int),
  (S.table.keys.once.length:Int),(S.table.aL.length:Int),(S.call.dead.length:Int),(S.call.marks.length:Int),(S.call.early.length:Int),(S.log.length:Int),(S.aH.length:Int),
  aI l',aI S.mD,aI S.table.keys.ident,aI S.table.keys.signed,aI S.call.dv,aI S.call.id,aI S.call.own,aI S.call.dx,aI S.call.gY,bN cV.id S.table.keys.once,cq cV.cP S.table.keys.once,bN (fun p:ez=>p.dev.a) S.table.aL,bN (fun p:ez=>p.dev.d) S.table.aL,C,cq (fun x=>x) S.call.dead,aI S.call.marks,bN jl.a S.call.early,bN jl.d S.call.early,aI S.log,cq Room.id S.aH,bN Room.aP S.aH,er Room.out S.aH,bN Room.since S.aH,q',H',rfl,rfl,?_⟩
 refine⟨.inr (by omega),fun _=>⟨fun h6=>?_,fun h6=>?_⟩⟩;rotate_left
 ·refine no (nt fun h'=>h6 ?_) h9;rw [h'.2.2.2.1]at Yc;cases q' with
  | true=>cases Yc
  | false=>
   have:l'=[]:=by simpa [cg] using Yc
   subst this;simp
 have WY:(o3 l).2=some []:=by
  rw [←Yc];have h7:q'=false:=by cases q' with
   | true=>exact absurd (.inl rfl) h6
   | false=>rfl
  have h8:l'=[]:=by
   cases l' with
   | nil=>rfl
   | cons a b=>exact absurd (.inr (by simp)) h6
  rw [h7,h8];rfl
 obtain⟨he,iz⟩:=Lp hl.b WY;rw [←hS,←hm]at he;rw [←hS]at iz;have jT:=mi (B:=ef true S C u1.v u2.v u3.v u4.v u5.v u6.v u7.v++[H']) (xp S (S.table.most:Int) ((S.call.fQ:Int) - 1) u1 u2 u3 u4 u5 u6 u7 C (HP.look H') rfl hP' (pI iz (by rw [←he];exact hmo))) (by
  intro h hh;rcases auE.1 hh with hh | hh
  ·refine bc.left ?_;simp only [List.mem_cons,List.not_mem_nil,or_false]at hh;rcases hh with rfl | rfl | rfl | rfl | rfl | rfl | rfl
   ·exact jb (.head _)
   ·exact jb (.tail _ (.head _))
   ·exact jb (.tail _ (.tail _ (.head _)))
   ·exact jb (.tail _ (.tail _ (.tail _ (.head _))))
   ·exact jb (.tail _ (.tail _ (.tail _ (.tail _ (.head _)))))
   ·exact jb (.tail _ (.tail _ (.tail _ (.tail _ (.tail _ (.head _))))))
   ·exact jb (.tail _ (.tail _ (.tail _ (.tail _ (.tail _ (.tail _ (.head _)))))))
  ·rw [auz.1 hh];exact bc.right bc.look)
 refine⟨_,jT,?_⟩;rintro x lP ⟨rfl,rfl⟩;refine⟨_,rfl,rfl,fun h7=>?_,fun h7=>?_⟩
 ·exact no (nt fun h'=>h7 (by rw [hS];exact h'.2.2.2.2)) h9
 have h7:kf S (S.table.most:Int) ((S.call.fQ:Int) - 1)=true:=Decidable.not_not.1 h7;have ht:gK l=some S:=by
  unfold gK;rw [if_pos ⟨by omega,hd,YH,WY,by rw [←hS];exact h7⟩,hS]
 refine⟨fun S' h'=>?_,fun h'=>by rw [ht]at h';cases h'⟩;rw [ht]at h';cases h';exact⟨u1,u2,u3,u4,u5,u6,u7,C,H',rfl,.cons _ (List.Sublist.refl _),YU,hP'⟩
open Go Go.RX Go.Proofs Go.Vs
theorem Ou:(nZ Ud 20 [] [] {} Tryz.f20).leaf AU []=true:=
 F.ke _ [] (F.ke _ [false] (F.ke _ [false,false] (F.ke _ [false,false,false] Ji Jj) (F.ke _ [false,false,true] Jk Jl)) (F.ke _ [false,true] NP NQ)) (F.ke _ [true] RO RP)
theorem Ov{ρ:Env}{v:Value}{cs:List bP}(h:Jh cs=true):aB true 93 33 v 1 (aG ρ 1 cs)=Cv true v iI:=by
 unfold Jh at h;split at h
 ·rename_i a b;simp only [ai,beq_iff_eq,auo,auG]at h;obtain⟨h1,h2⟩:=h;have e1:=bZ (ρ:=ρ) h1;rw [cX]at e1;have e2: ∀j,j<32→b.den ρ j=((if j=0 then 4 else 0:Nat):Int):=fun j hj=>by
   have:=bZ (ρ:=ρ) (h2 j hj);rw [cX]at this;have e0:(E.den ρ (.lit (j:Int)) 0).toNat=j:=by simp [E.den]
   rwa [e0]at this
  have e3: ∀j,j<32→b.den ρ j=cq cV.cP iI j:=fun j hj=>by
   rw [e2 j hj];show _=((((4::List.replicate 31 0:List Nat)++[]).getD j 0:Nat):Int)
   match j,hj with
   | 0,_=>rfl
   | j+1,hj=>
    have:((4::List.replicate 31 0:List Nat)++[]).getD (j+1) 0=0:=by
     rw [List.append_nil,List.getD_cons_succ,auO,List.getElem?_replicate];split<;>rfl
    rw [this];rfl
  refine congrArg (aB true 93 33 v 1) ?_;show ay .u32 1 (a.den ρ) 0++(ay .u8 32 (b.den ρ) 0++[])++[]=ay .u32 1 (bN cV.id iI) 0++(ay .u8 32 (cq cV.cP iI) 0++[])++[];have c1:ay .u32 1 (a.den ρ) 0=ay .u32 1 (bN cV.id iI) 0:=by
   unfold ay;refine List.map_congr_left fun j hj=>?_
   have hj:=auG.1 hj;dsimp only;rw [show 0*1+j=0 by omega];exact congrArg (Value.int .u32) e1
  have c2:ay .u8 32 (b.den ρ) 0=ay .u8 32 (cq cV.cP iI) 0:=by
   unfold ay;refine List.map_congr_left fun j hj=>?_
   have hj:=auG.1 hj;dsimp only;rw [show 0*32+j=j by omega,e3 j hj]
  rw [c1,c2]
 ·cases h
theorem JS(u:SV)(hp:List Ck)(ρ:Env)(h:AU u hp=true): ∃(o:List cV) (v:V1),u.val ρ= .agg (jS (plain o) v.v bj.v bj.v bj.v bj.v bj.v bj.v).toArray∧(o=[]∧v=bj∨o=iI∧(hp.map (Ck.den ρ))[1]? =some (Cv true v.v iI)):=by
 unfold AU at h;split at h
 ·rename_i cs;simp only [ai]at h;obtain⟨⟨h1,h2⟩,h3⟩:=h;have key: ∀x,(ib cs)[99]? =some x→SV.cells ρ x=[x.val ρ]→SV.val ρ (.agg cs)= .agg (SV.ao ρ plA++x.val ρ::SV.ao ρ plB).toArray:=by
   intro x hx hc;obtain⟨hl,hg⟩:=aup.1 hx;have e:ib cs=(ib cs).take 99++x::(ib cs).drop 100:=by
    rw [←hg,List.getElem_cons_drop,List.take_append_drop]
   have:SV.ao ρ cs=SV.ao ρ plA++x.val ρ::SV.ao ρ plB:=by
    rw [←gy,e,iK,cn h1];show _++(SV.cells ρ x++SV.ao ρ _)=_;rw [hc,cn h2];rfl
   rw [SV.val,this]
  split at h3
  ·rename_i hx;exact⟨[],bj,by rw [key _ hx rfl];exact congrArg (fun l=>Value.agg l.toArray) (Dg ρ [] _),.inl ⟨rfl,rfl⟩⟩
  ·rename_i k hx;split at h3
   ·rename_i c k' n aA;simp only [ai,beq_iff_eq]at h3;obtain⟨⟨rfl,hn⟩,hc⟩:=h3;have en:=bZ (ρ:=ρ) hn;refine⟨iI,ρ.vv.getD k V1.nil,by rw [key _ hx rfl];exact congrArg (fun l=>Value.agg l.toArray) (Dg ρ iI _),.inr ⟨rfl,?_⟩⟩;show some (aB true 93 33 (ρ.vv.getD k V1.nil).v (n.den ρ 0).toNat (aG ρ (n.den ρ 0).toNat aA))=_;rw [en];exact congrArg some (Ov hc)
   ·cases h3
  ·cases h3
 ·cases h
theorem bI.app{a b:List HP}(h:bI [] b):bI a (a++b):=by
 have:=bI.front (A:=a) h
 rwa [List.append_nil]at this
theorem bI.wk{b c:List HP}(h1:bI [] b)(h2:bI [] c):bI [] (b++c):=bI.trans h1 (bI.app h2)
theorem Ho:aq auN 20 [] [] fun r hs=> ∃(o:List cV) (v:V1),(o=[]∨o=iI)∧r= .agg (jS (plain o) v.v bj.v bj.v bj.v bj.v bj.v bj.v).toArray∧hs=ef true (plain o) (fun _=>0) v.v bj.v bj.v bj.v bj.v bj.v bj.v++[HP.none]:=by
 have hm:=aq.D3 (C:=Ud) (al:=fun u hs=> ∃(o:List cV) (v:V1),u= .agg (jS (plain o) v.v bj.v bj.v bj.v bj.v bj.v bj.v).toArray∧(o=[]∧v=bj∨o=iI∧hs[1]? =some (Cv true v.v iI))) (ρ:=Ay) (args:=[]) (hp:=[]) (a_:={}) YW I0 YX Tryz.func20 (by constructor<;>rfl) (F.Jg JS Ay _ Ou) (gW.none rfl);refine aq.post hm ?_;have nl: ∀t s,bI [] [aB true t s (.slice none 0 0) 0 []]:=bI.uy;have six:bI [] ([za true bj.v [] (fun _=>0),AS true bj.v [],aR true bj.v [],AT true bj.v [],aR true bj.v [],tH true bj.v []]++[HP.none]):=
  bI.wk (bI.wk (b:=[_]) (nl 68 3) (bI.wk (b:=[_]) (nl 36 16) (bI.wk (b:=[_]) (nl 5 1) (bI.wk (b:=[_]) (nl 26 2) (bI.wk (b:=[_]) (nl 5 1) (nl 98 19)))))) bI.none
 rintro r hs ⟨o,v,rfl,h⟩;rcases h with⟨rfl,rfl⟩ | ⟨rfl,h⟩
 ·exact⟨_,bI.trans (bI.sub (List.nil_sublist _)) (bI.wk (b:=[_]) (nl 93 33) six),[],bj,.inl rfl,rfl,rfl⟩
 ·have h1:bI hs [Cv true v.v iI]:=bI.idx [1] (by decide) (by
   intro m u hu
   match m,hu with
   | 0,hu=>cases hu;exact⟨1,rfl,h⟩
   | m+1,hu=>simp at hu)
  exact⟨_,bI.trans h1 (bI.app six),iI,v,.inr rfl,rfl,rfl⟩
open Go.RX Go.Proofs
noncomputable def alE:Ctx:={T:=TT,FT:=FT,br:=Vw.Rp,mE:=Vw.VN}
noncomputable def alF:Ctx:={T:=TT,FT:=FT,br:=Vw.Rq}
open Go.RX Go.Proofs
set_option maxRecDepth 100000
def Hp(al:PT)(x0:Int)(A0:Nat→Int)(_:V1):Prop:=
 ∀_:Nat,ax (0≤x0) (
 ∀_ _:V1,lp (10+x0) (
 ∀v3:V1,Cl 33 [v3.v,.int .i64 32] [aB true 5 1 v3.v (ag (10+x0)) (aM (ag (10+x0)) [ay .u8 1 (bX (bX (aw (aw (aw (aw (aw (aw (fun _=>0) 0 72) 1 76) 2 83) 3 84) 4 0) 5 1) 6 4 (aw (aw (aw (aw (fun _=>0) 3 (ae .u8 (ar .rem .u64 (ae .u64 x0) 256))) 2 (ae .u8 (ar .rem .u64 (ae .u64 (ar .quo .u64 (ae .u64 x0) 256)) 256))) 1 (ae .u8 (ar .rem .u64 (ae .u64 (ar .quo .u64 (ae .u64 (ar .quo .u64 (ae .u64 x0) 256)) 256)) 256))) 0 (ae .u8 (ar .rem .u64 (ae .u64 (ar .quo .u64 (ae .u64 (ar .quo .u64 (ae .u64 (ar .quo .u64 (ae .u64 x0) 256)) 256)) 256)) 256)))) 10 (ag x0) A0)])] fun x hs l=> ∃(v4:V1) (A1:Nat→Int),x=v4.v∧hs=l++[aB true 5 1 v4.v 32 (aM 32 [ay .u8 1 A1])]∧
 ax (0≤(10+x0)) (
 lp ((10+x0)+8) (
 ∀v5:V1,al (v5.v) [aB true 5 1 v5.v (ag ((10+x0)+8)) (aM (ag ((10+x0)+8)) [ay .u8 1 (bX (bX (bX (aw (aw (aw (aw (aw (aw (fun _=>0) 0 72) 1 76) 2 83) 3 84) 4 0) 5 1) 6 4 (aw (aw (aw (aw (fun _=>0) 3 (ae .u8 (ar .rem .u64 (ae .u64 x0) 256))) 2 (ae .u8 (ar .rem .u64 (ae .u64 (ar .quo .u64 (ae .u64 x0) 256)) 256))) 1 (ae .u8 (ar .rem .u64 (ae .u64 (ar .quo .u64 (ae .u64 (ar .quo .u64 (ae .u64 x0) 256)) 256)) 256))) 0 (ae .u8 (ar .rem .u64 (ae .u64 (ar .quo .u64 (ae .u64 (ar .quo .u64 (ae .u64 (ar .quo .u64 (ae .u64 x0) 256)) 256)) 256)) 256)))) 10 (ag x0) A0) (ag (10+x0)) 8 A1)])]))))
theorem SW(al:PT)(x0:Int)(A0:Nat→Int)(v0:V1)(h:Hp al x0 A0 v0):aq auN 14 [v0.v] [bh v0 x0 A0] al:=
 yM (C:=alE) Vt.Rm Vt.I8 Vt.Eg ⟨[x0],[A0],[],[],[v0],[],[],[]⟩ Tryz.func14 (by kernel_rfl) h
def Hq(al:PT)(x0:Int)(A0:Nat→Int)(v0:V1):Prop:=
 ax (0≤x0) (
 bt (x0<18) (
 al (.tuple #[.slice none 0 0,.bool false]) []) (
 gS (x0 - 8) ((
 ax (10≤(x0 - 8)) (
 ax ((x0 - 8)≤x0) (
 Cl 14 [(aF 1 v0.v 10 (ag (x0 - 8)) none)] [bh v0 x0 A0] fun x hs l=> ∃(v1:V1) (x1:Int) (A1:Nat→Int),x=v1.v∧hs=l++[bq v1 x1 A1]∧
 al (.tuple #[(aF 1 v0.v 10 (ag (x0 - 8)) none),.bool (dC (uv A1 x1)==dC (uv A0 x0))]) []))))))
theorem SX(al:PT)(x0:Int)(A0:Nat→Int)(v0:V1)(h:Hq al x0 A0 v0):aq auN 18 [v0.v] [bh v0 x0 A0] al:=
 s8 (C:=alF) Vt.Rm Vt.I8 Vt.Eg ⟨[x0],[A0],[],[],[v0],[],[],[]⟩ 0 Tryz.func18 (by kernel_rfl) h
end Go.RX.Vb

namespace Go.RX.Fn
open Go.RX Go.RX.Fe Go.RX.Fg Go.RX.Fi Go.RX.Fj Go.RX.Fk Go.RX.Fl Go.RX.Fm
def cL(a:Nat):List bP:=[⟨.int .u64,1,.cU a⟩]
def zG(ck:Ck)(h:List Ck):List Ck:=
 match h.reverse.findIdx? (fun | .cC .. =>true | _=>false)with
 | some i=>(h.reverse.set i ck).reverse
 | none=>[]
def ED(cs:List SV):List Ck→List Ck
 | []=>[]
 | .row b w x::r=>if SV.pY x=8 then .row b w cs::r else .row b w x::ED cs r
 | c::r=>c::ED cs r
def afc:List SV→List Ck→SV
 | [.int _ (.lit n)],_=> .int .u64 (.lit (2^n.toNat))
 | _,_=> .undef
def afd:aK:={use:=fun _ _=>[],val:=fun _=> .undef,new:=fun _ _=>[],valOf:=some afc}
def four:aK:={use:=fun _ _=>[],inc:={i:=1},val:=fun c=> .int .u64 (.var c.i),new:=fun _ _=>[]}
def alG(n:E):aK:={use:=fun az hp=>roots hp az,inc:={v:=1,a:=1},val:=fun c=> .vv c.v,new:=fun c h=>h++[.cC true c.v 24 1 n (cL c.a)]}
def br(f:Nat):Option aK:=
 match f with
 | 61=>some afd
 | 64=>some four
 | 65=>some {use:=fun az hp=>roots hp az,inc:={v:=1,a:=1},val:=fun c=> .vv c.v,new:=fun c _=>[.cC true c.v 24 1 (.lit 8) (cL c.a)]}
 | 60=>some (alG (.lit 80))
 | 62=>some SF
 | 33=>some (makes fun _ _=> .lit 32)
 | _=>none
def loops(f id:Nat):Option ey:=
 match f,id with
 | 61,0=>some {inc:={i:=2},aX:=fun c=>[(3,.int .u64 (.var c.i)),(4,.int .i64 (.var (c.i+1)))],hp:=fun _ h=>h}
 | 33,2=>some {inc:={i:=9},aX:=fun c=>[(11,.int .i64 (.var (c.i+8)))],hp:=fun c h=>ED (ints .u64 c.i 8) h}
 | 33,4=>some {pre:=[.slot 12 24],inc:={i:=1,v:=1,a:=1},aX:=fun c=>[(13,.int .i64 (.var c.i)),(12,.vv c.v)],hp:=fun c h=>zG (.cC true c.v 24 1 (.var c.i) (cL c.a)) h}
 | 33,14=>some {pre:=[.slot 20 5],inc:={i:=2,v:=1,a:=2},aX:=fun c=>[(21,.int .i64 (.var c.i)),(20,.vv c.v)],hp:=fun c h=>ED [.dg .u64 8 (.cU (c.a+1))] (zG (.cC true c.v 5 1 (.var (c.i+1)) (cB c.a)) h)}
 | 33,8=>some {inc:={i:=1,v:=1,a:=1},aX:=fun c=>[(16,.int .i64 (.var c.i)),(12,.vv c.v)],hp:=fun c h=>zG (.cC true c.v 24 1 (.var c.i) (cL c.a)) h}
 | 33,10=>some {inc:={i:=1,v:=1,a:=1},aX:=fun c=>[(18,.int .i64 (.var c.i)),(17,.vv c.v)],hp:=fun c h=>zG (.cC true c.v 24 1 (.lit 8) (cL c.a)) h}
 | 62,0=>some {back:=[.swap 5 1],inc:={i:=1,a:=1,v:=1},aX:=fun c=>[(5,.vv c.v)],hp:=fun c h=>SE 1 c.v (.var c.i) c.a h}
 | _,_=>none
end Go.RX.Fn
