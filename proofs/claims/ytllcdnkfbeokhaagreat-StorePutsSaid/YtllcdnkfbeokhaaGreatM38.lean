/- A state is taken. -/
import Derived.Test.YtllcdnkfbeokhaaGreatM37
open Bool renaming and_eq_true -> ai
open Go.IntKind renaming wrap -> ae
open Go.Proofs.Tryz renaming prog -> ax8
open Go.Value renaming int -> ayD
open Int renaming toNat -> ag, toNat_natCast -> ax3
open List renaming all_eq_true -> axS, append -> axQ, append_assoc -> ayl, getD_cons_succ -> ayI, getD_eq_getElem?_getD -> ayk, getElem?_eq_some_iff -> axT, length_map -> ayd, map_cons -> ayr, mem_append -> ax_, mem_range -> ayc, mem_singleton -> ax2
namespace Go.RX.Vb
open Go Go.RX Go.Proofs Go.Vs
theorem acM{x:Value}{l:List Nat}{lo hi:Nat}(h1:lo<=hi)(h2:hi<=l.length):aN false (aK 1 x lo hi none) (bc l lo hi)=aA false 5 1 (aK 1 x lo hi none) (hi - lo) (((aG l.length [ax .u8 1 (aJ l)]).drop (lo*1)).take ((hi - lo)*1)):=by
 rw[Hn l lo (hi - lo) (by omega)];exact congrArg (λn=>aA false 5 1 (aK 1 x lo hi none) n (aG (bc l lo hi).length [ax .u8 1 (aJ (bc l lo hi))])) (gM h1 h2)
theorem uZ{B:List HP}{x:Value}{l:List Nat}{lo hi:Nat}(hb:aZ B (aN false x l))(h1:lo<=hi)(h2:hi<=l.length):aZ B (aN false (aK 1 x lo hi none) (bc l lo hi)):=by
 rw[acM h1 h2];exact aZ.sub (mx:=none) hb h1 h2 λm h=>by cases h
def HP.none:HP:=⟨true,λ_ S=> ∀k,¬S k,λ_ _ _ h _=>h⟩
def HP.look(H:HP):HP:=⟨false,H.p,H.eU⟩
theorem aZ.look{H:HP}:aZ [H] (HP.look H):=⟨rfl,λ_ _ hS=>⟨_,(hS.at_ 0 _ rfl).1,λ_ hk=>⟨0,by simp,hk⟩⟩⟩
theorem bq.none:bq [] [HP.none]:=by
 intro w Fs ⟨S,hS⟩;refine⟨λi=>match i with | 0=>λ_=>False | i+1=>S i,⟨?_,?_⟩⟩
 .intro i x hx
  match i,hx with
  | 0,hx=>
   simp at hx;subst hx;exact⟨λk h=>h,λk h=>h.elim⟩
  | i+1,hx=>exact hS.at_ i x (by simpa using hx)
 .intro i j x y fL hx hy hw k
  match i,j,fL,hx,hy with
  | 0,_,_,_,_=>exact λh=>h.elim
  | i+1,0,_,_,_=>exact λ_ h=>h
  | i+1,j+1,fL,hx,hy=>exact hS.apart i j x y (by omega) (by simpa using hx) (by simpa using hy) hw k
theorem jx{B:List HP}{t s n:Nat}{v:Value}{cs:List Value}(hm:aA true t s v n cs∈B):aZ B (aA false t s v n cs):=by
 obtain⟨a,b,rfl⟩:=List.append_of_mem hm;have:=aZ.mid (A:=a) (C:=b) (aZ.own (t:=t) (s:=s) (n:=n) (v:=v) (cs:=cs))
 rwa[ayl]at this
theorem Ic{x:Value}{l:List Nat}{lo hi:Nat}(h1:lo<=hi)(h2:hi<=l.length):bq [aN false x l] [aN false x l,aN false (aK 1 x lo hi none) (bc l lo hi)]:=
 bq.trans (bq.dup rfl []) (bq.view (mx:=none) (m:=bc l lo hi) h1 h2 (λm h=>by cases h) rfl _ 1 rfl)
theorem KC: ∀{l m:List Nat},(∀x∈l,x<256)->(∀x∈m,x<256)->l.map UInt8.ofNat=m.map UInt8.ofNat->l=m
 | [],[],_,_,_=>rfl
 | [],_::_,_,_,h=>by cases h
 | _::_,[],_,_,h=>by cases h
 | a::l,b::m,hl,hm,h=>by
  simp only[ayr,List.cons.injEq]at h;have e:=congrArg UInt8.toNat h.1;have ha:=hl a (by simp);have hb:=hm b (by simp);rw[UInt8.toNat_ofNat_of_lt' ha,UInt8.toNat_ofNat_of_lt' hb]at e;rw[e,KC (λx hx=>hl x (by simp[hx])) (λx hx=>hm x (by simp[hx])) h.2]
theorem E7(l:List Nat)(n:Nat)(h:n<=l.length):eB (xY (aJ l) (n:Int))=(bc l 0 n).map UInt8.ofNat:=by
 rw[N9];refine List.ext_getElem (by simp[bc];omega) λi h1 h2=>?_
 simp only[ayd,List.length_range,ax3]at h1;simp only[bc,List.getElem_map,List.getElem_range,List.drop_zero,List.getElem_take];rw[gL (by omega),ax3]
theorem acN{l m:List Nat}(hl: ∀x∈l,x<256)(hm: ∀x∈m,x<256):(l.map UInt8.ofNat==m.map UInt8.ofNat)=(l==m):=by
 rw[Bool.eq_iff_iff,beq_iff_eq,beq_iff_eq];exact⟨KC hl hm,λh=>by rw[h]⟩
theorem Pf(v0 v1:V1)(l m:List Nat)(hl: ∀x∈l,x<256)(hm: ∀x∈m,x<256):ao ax8 43 [v0.v,v1.v] [aN false v0.v l,aN false v1.v m] λr hs=>hs=[]/\r= .bool (l==m):=by
 refine ao.post (abL (λr _=>r= .bool (l==m)) (l.length:Int) (m.length:Int) (aJ l) (aJ m) v0 v1 ?_) ?_
 .unfold SJ;rw[E7 l l.length (Nat.le_refl _),E7 m m.length (Nat.le_refl _),D5,D5,acN hl hm]
 .rintro r hs rfl;exact⟨[],bq.sub (List.nil_sublist _),rfl,rfl⟩
set_option maxRecDepth 100000 in
set_option maxHeartbeats 4000000 in
theorem KD(v:V1)(l:List Nat)(hl:hZ l):ao ax8 17 [v.v] [aN false v.v l] λr hs=>
  (∀S,kB l=some S->∃(u1 u2 u3 u4 u5 u6 u7:V1) (C:Nat->Int) (H:HP),r= .tuple #[.agg (j7 S u1.v u2.v u3.v u4.v u5.v u6.v u7.v).toArray,.int .i64 0]/\hs=H::ef true S C u1.v u2.v u3.v u4.v u5.v u6.v u7.v/\H.wr=true/\lK (HP.look H) S.table.aD C)/\
  (kB l=none->r= .tuple #[.agg Vm.toArray,.int .i64 (if 4194304<l.length then 3 else 9)]/\hs=[]):=by
 refine ao.post (Xl (λr hs=>(∀S,kB l=some S->∃(u1 u2 u3 u4 u5 u6 u7:V1) (C:Nat->Int) (H:HP),r= .tuple #[.agg (j7 S u1.v u2.v u3.v u4.v u5.v u6.v u7.v).toArray,.int .i64 0]/\List.Sublist (H::ef true S C u1.v u2.v u3.v u4.v u5.v u6.v u7.v) hs/\H.wr=true/\lK (HP.look H) S.table.aD C)/\
  (kB l=none->r= .tuple #[.agg Vm.toArray,.int .i64 (if 4194304<l.length then 3 else 9)])) (l.length:Int) (aJ l) v ?_) ?_
 rotate_left
 .rintro r hs ⟨h1,h2⟩;cases h:kB l with
  | none=>exact⟨[],bq.sub (List.nil_sublist _),λS h'=>(by cases h'),λ_=>⟨h2 h,rfl⟩⟩
  | some S=>
   obtain⟨u1,u2,u3,u4,u5,u6,u7,C,H,h3,h4,h5⟩:=h1 S h;refine⟨_,bq.sub h4,λS' h'=>?_,λh'=>by cases h'⟩;cases h';exact⟨u1,u2,u3,u4,u5,u6,u7,C,H,h3,rfl,h5⟩
 have no: ∀{e:Int} {hs:List HP} (_:kB l=none) (_:e=if 4194304<l.length then 3 else 9),(∀S,kB l=some S->∃(u1 u2 u3 u4 u5 u6 u7:V1) (C:Nat->Int) (H:HP),Value.tuple #[.agg Vm.toArray,.int .i64 e]= .tuple #[.agg (j7 S u1.v u2.v u3.v u4.v u5.v u6.v u7.v).toArray,.int .i64 0]/\List.Sublist (H::ef true S C u1.v u2.v u3.v u4.v u5.v u6.v u7.v) hs/\H.wr=true/\lK (HP.look H) S.table.aD C)/\
  (kB l=none->Value.tuple #[.agg Vm.toArray,.int .i64 e]= .tuple #[.agg Vm.toArray,.int .i64 (if 4194304<l.length then 3 else 9)]):=λh e=>⟨λS h'=>(by rw[h]at h';cases h'),λ_=>by rw[e]⟩
 have nt: ∀(_: ¬(l.length<=4194304/\yi l/\BZ l/\(qz l).2=some []/\lL (qz l).1 (qz l).1.table.most ((qz l).1.call.fu - 1)=true)),kB l=none:=λh=>if_neg h
 have mag:6<=l.length->(eB (xY (aJ l) 6)=eB (QA [6,72,76,83,84,0,1])↔bc l 0 6=eO):=by
  intro h6;have e1:eB (xY (aJ l) 6)=(bc l 0 6).map UInt8.ofNat:=E7 l 6 h6;have e2:eB (QA [6,72,76,83,84,0,1])=eO.map UInt8.ofNat:=by decide
  rw[e1,e2];exact⟨KC (wR hl.b) (by decide),λh=>by rw[h]⟩
 unfold L4;intro b0 b1;have hn:=hl.n
 iterate 3 refine⟨by omega,λ_=>?_⟩
 refine⟨λh=>?_,λh=>?_⟩
 .exact no (nt λh'=>by omega) (by rw[if_pos (by omega)])
 have h9:(9:Int)=if 4194304<l.length then 3 else 9:=by rw[if_neg (by omega)]
 refine⟨by omega,λ_=>⟨by omega,λ_=>⟨λh2=>?_,λh2=>?_⟩⟩⟩
 .refine no (nt λh'=>?_) h9;obtain⟨_,⟨h3,h4⟩,_⟩:=h';rcases h2 with h2 | h2
  .omega
  .exact h2 ((mag (by omega)).2 h4)
 have hd:yi l:=⟨by omega,(mag (by omega)).1 (Decidable.not_not.1 λh'=>h2 (.inr h'))⟩;have h18:=hd.1;refine⟨by omega,λ_=>?_⟩;intro b2;refine⟨λe=>e=⟨[],[⟨aK 1 v.v 6 10 none,cD 1 v.v 6 10 none⟩],[4],[aJ (bc l 6 10)],[],[HP.emp],[]⟩,λw Fs ho=>?_,?_⟩
 .refine⟨⟨aK 1 v.v 6 10 none,cD 1 v.v 6 10 none⟩,4,aJ (bc l 6 10),HP.emp,?_,rfl⟩;have h5:=bq.front (A:=[ak b2 true ([.bool false,(aK 1 v.v 6 10 none),.bool false])]) (Ic (x:=v.v) (l:=l) (lo:=6) (hi:=10) (by omega) (by omega)) w Fs ho;have e4:(bc l 6 10).length=ag 4:=gM (by omega) (by omega);rw[show aN false (aK 1 v.v 6 10 none) (bc l 6 10)=aA false 5 1 (aK 1 v.v 6 10 none) (ag 4) (aG (ag 4) [ax .u8 1 (aJ (bc l 6 10))])from congrArg (λn=>aA false 5 1 (aK 1 v.v 6 10 none) n (aG n [ax .u8 1 (aJ (bc l 6 10))])) e4]at h5;exact h5
 rintro v1 x1 A1 p0 he;simp only[Ext.mk.injEq,List.cons.injEq,and_true,true_and]at he;obtain⟨rfl,rfl,rfl,rfl⟩:=he;refine⟨by omega,λ_=>⟨by omega,λ_=>?_⟩⟩;intro b3;have en:ag ((l.length:Int) - 8)=l.length - 8:=by omega
 rw[en];have KE:ao ax8 22 [.slice (some ⟨b3,0,none⟩) 1 1] ([ak b3 true ([aK 1 v.v 0 (l.length - 8) none])]++[aN false v.v l]) λr hs=>r= .agg (aj .u8 32 (aJ (eH (bc l 0 (l.length - 8))))).toArray/\hs=[ak b3 true ([aK 1 v.v 0 (l.length - 8) none]),aN false v.v l]:=by
  have h1:ao ax8 22 [.slice (some ⟨b3,0,none⟩) 1 1] ([ak b3 true [aK 1 v.v 0 (l.length - 8) none]]++[aN false (aK 1 v.v 0 (l.length - 8) none) (bc l 0 (l.length - 8))]) λr hs=>r= .agg (aj .u8 32 (aJ (eH (bc l 0 (l.length - 8))))).toArray/\hs=[ak b3 true [aK 1 v.v 0 (l.length - 8) none]]:=by
   refine ao.post (Ia b3 ⟨aK 1 v.v 0 (l.length - 8) none,cD _ _ _ _ _⟩ (bc l 0 (l.length - 8)) (wR hl.b) (by rw[gM (by omega) (by omega)];omega)) ?_;rintro r hs ⟨rfl,rfl⟩;exact⟨_,bq.sub (.cons_cons _ (.cons _ .slnil)),rfl,rfl⟩
  refine ao.post (ao.C3 (B:=[aN false v.v l]) h1 ?_ ?_) ?_
  .rintro _ hs ⟨_,rfl⟩ x hx;rw[ax2.1 hx];rfl
  .intro x hx;rw[ax2.1 hx];exact uZ (aZ.self rfl) (by omega) (by omega)
  .rintro r hs ⟨zF,⟨rfl,rfl⟩,rfl⟩;exact⟨_,bq.refl _,rfl,rfl⟩
 refine⟨_,KE,?_⟩;rintro x lU ⟨rfl,rfl⟩;refine⟨aJ (eH (bc l 0 (l.length - 8))),by rw[show∀l:List Value,axQ l []=l from List.append_nil],rfl,?_⟩;intro b4;refine⟨by omega,λ_=>⟨by omega,λ_=>?_⟩⟩;refine bt (q:=false) (l:=bc l 6 10) 4 (.inr (.inl ⟨rfl,rfl⟩)) rfl (BY hl) cu.rfl (by rw[gM (by omega) (by omega)];rfl) λv2 q0 l2 NF C1 FX=>?_
 have ex:((num 4).bB (ct false (bc l 6 10))).1=jC (bc l 6 10):=by
  have h4:(bc l 6 10).length=4:=gM (by omega) (by omega);simp only[num,ct,Bool.false_eq_true,if_false,take,h4,Nat.le_refl,if_true,Option.elim];rw[List.take_of_length_le (by omega)]
 have ew:ae .u64 ((l.length:Int) - 8 - 10)=((l.length - 18:Nat):Int):=by
  rw[show((l.length:Int) - 8 - 10)=((l.length - 18:Nat):Int) by omega];exact jb (by omega)
 rw[ex,ew];refine⟨.inr (by omega),λ_=>⟨.inr (by omega),λ_=>⟨λh3=>?_,λh3=>?_⟩⟩⟩;rotate_left
 .exact no (nt λh'=>h3 (by have:=h'.2.2.1.1;omega)) h9
 obtain⟨sh,y_⟩: ∃sh,sh=eH (bc l 0 (l.length - 8)):=⟨_,rfl⟩;have l32:sh.length=32:=by rw[y_,cK]
 have sh8: ∀x∈sh.take 8,x<256:=λx hx=>Ml _ x (by rw[<-y_];exact List.mem_of_mem_take hx)
 rw[<-y_];have rM:aZ [ak b4 true (aj .u8 32 (aJ sh))] (aN false (.slice (some ⟨b4,0,none⟩) 8 32) (sh.take 8)):=by
  have:=aZ.row (t:=5) (b:=b4) (wr:=true) (lo:=0) (n:=8) (m:=32) (cs:=aj .u8 32 (aJ sh)) (by simp[aH]) (by omega);rw[List.drop_zero,gQ .u8 32 8 _ (by omega)]at this;have e8:(sh.take 8).length=8:=by rw[List.length_take,l32];rfl
  have et:aG (sh.take 8).length [ax .u8 1 (aJ (sh.take 8))]=aj .u8 8 (aJ sh):=by
   rw[wz,e8];exact gy λj hj=>by rw[gL (by omega),gL (by omega),List.getElem_take]
  rw[show aN false (.slice (some ⟨b4,0,none⟩) 8 32) (sh.take 8)=aA false 5 1 (.slice (some ⟨b4,0,none⟩) 8 32) 8 (aj .u8 8 (aJ sh)) by rw[aN,et,e8]];exact this
 have heq:=pf (B:=[ak b4 true (aj .u8 32 (aJ sh)),aN false v.v l]) (Pf ⟨.slice (some ⟨b4,0,none⟩) 8 32,rfl⟩ ⟨aK 1 v.v (l.length - 8) l.length none,cD _ _ _ _ _⟩ (sh.take 8) (bc l (l.length - 8) l.length) sh8 (wR hl.b)) (by
  intro h hh;rcases List.mem_cons.1 hh with rfl | hh
  .exact aZ.left (C:=[aN false v.v l]) rM
  .rw [ax2.1 hh];exact uZ (aZ.right (A:=[ak b4 true (aj .u8 32 (aJ sh))]) (aZ.self rfl)) (by omega) (Nat.le_refl _))
 rw[show ag (l.length:Int)=l.length from ax3 _,show∀l:List Value,axQ l []=l from List.append_nil];refine⟨_,heq,?_⟩;rintro x lU ⟨rfl,rfl⟩;refine⟨_,rfl,rfl,λh4=>?_,λh4=>?_⟩
 .exact no (nt λh'=>h4 (by rw[y_,h'.2.2.1.2];simp)) h9
 have h4:sh.take 8=bc l (l.length - 8) l.length:=by simpa using h4
 have Z2:BZ l:=⟨by omega,by rw[<-y_];exact h4⟩;refine⟨by omega,λ_=>?_⟩;intro b5;obtain⟨m,hm⟩: ∃m,m=bc l 10 (l.length - 8):=⟨_,rfl⟩;have hml:m.length=l.length - 8 - 10:=by rw[hm];exact gM (by omega) (by omega)
 have hmo:hZ m:=by rw[hm];exact BY hl
 refine⟨λe=>e=⟨[],[⟨aK 1 v.v 10 (l.length - 8) none,cD 1 v.v 10 _ none⟩],[(m.length:Int)],[aJ m],[],[HP.none],[]⟩,λw Fs ho=>?_,?_⟩
 .refine⟨⟨aK 1 v.v 10 (l.length - 8) none,cD 1 v.v 10 _ none⟩,(m.length:Int),aJ m,HP.none,?_,rfl⟩;have h5:=(bq.front (A:=[ak b5 true ([.bool false,(aK 1 v.v 10 (l.length - 8) none),.bool false])]) (bq.trans (Ic (x:=v.v) (l:=l) (lo:=10) (hi:=l.length - 8) (by omega) (by omega)) (bq.front (A:=[aN false v.v l,aN false (aK 1 v.v 10 (l.length - 8) none) (bc l 10 (l.length - 8))]) bq.none))) w Fs ho;rw[<-hm]at h5;exact h5
 rintro v3 x4 A4 p1 he;simp only[Ext.mk.injEq,List.cons.injEq,and_true,true_and]at he;obtain⟨rfl,rfl,rfl,rfl⟩:=he;obtain⟨S,hS⟩: ∃S,S=(qz l).1:=⟨_,rfl⟩;have PX:aX.bB (ct false m)=qz l:=by rw[hm];rfl
 refine⟨_,ag6 b5 b1 ⟨aK 1 v.v 10 (l.length - 8) none,cD 1 v.v 10 _ none⟩ false m hmo HP.none rfl S (by rw[PX,hS]),?_⟩;rintro x lU ⟨rfl,v',u1,u2,u3,u4,u5,u6,u7,q',l',C,H',rfl,Zx,PU,hw',_,hP'⟩;rw[PX]at Zx;refine⟨v',u1,u2,u3,u4,u5,u6,u7,(l'.length:Int),(S.drawn:Int),(S.table.keys.dev.a:Int),(S.table.keys.dev.d:Int),(S.table.most:Int),(S.call.me.a:Int),(S.call.me.d:Int),(S.call.state:Int),bi S.call.out,(S.call.aM:Int),(S.call.peer.a:Int),(S.call.peer.d:Int),(S.call.fu:Int) - 1,(S.call.eD:Int),(S.call.bP:Int),(S.call.since:Int),(S.call.heard:Int),(S.call.lJ:Int),(S.call.fQ:Int),
  (S.table.keys.once.length:Int),(S.table.aD.length:Int),(S.call.dead.length:Int),(S.call.marks.length:Int),(S.call.early.length:Int),(S.log.length:Int),(S.aF.length:Int),
  aJ l',aJ S.lW,aJ S.table.keys.ident,aJ S.table.keys.signed,aJ S.call.bE,aJ S.call.id,aJ S.call.own,aJ S.call.cH,aJ S.call.fi,bu dj.id S.table.keys.once,cb dj.cT S.table.keys.once,bu (λp:eu=>p.dev.a) S.table.aD,bu (λp:eu=>p.dev.d) S.table.aD,C,cb (λx=>x) S.call.dead,aJ S.call.marks,bu js.a S.call.early,bu js.d S.call.early,aJ S.log,cb Room.id S.aF,bu Room.aM S.aF,dK Room.out S.aF,bu Room.since S.aF,q',H',rfl,rfl,?_⟩
 refine⟨.inr (by omega),λ_=>⟨λh6=>?_,λh6=>?_⟩⟩;rotate_left
 .refine no (nt λh'=>h6 ?_) h9;rw[h'.2.2.2.1]at Zx;cases q' with
  | true=>cases Zx
  | false=>
   have:l'=[]:=by simpa[ct] using Zx
   subst this;simp
 have XQ:(qz l).2=some []:=by
  rw[<-Zx];have h7:q'=false:=by cases q' with
   | true=>exact absurd (.inl rfl) h6
   | false=>rfl
  have h8:l'=[]:=by
   cases l' with
   | nil=>rfl
   | cons a b=>exact absurd (.inr (by simp)) h6
  rw[h7,h8];rfl
 obtain⟨he,iW⟩:=XS hl.b XQ;rw[<-hS,<-hm]at he;rw[<-hS]at iW;have kA:=pf (B:=ef true S C u1.v u2.v u3.v u4.v u5.v u6.v u7.v++[H']) (tA S (S.table.most:Int) ((S.call.fu:Int) - 1) u1 u2 u3 u4 u5 u6 u7 C (HP.look H') rfl hP' (sS iW (by rw[<-he];exact hmo))) (by
  intro h hh;rcases ax_.1 hh with hh | hh
  .refine aZ.left ?_;simp only[List.mem_cons,List.not_mem_nil,or_false]at hh;rcases hh with rfl | rfl | rfl | rfl | rfl | rfl | rfl
   .exact jx (.head _)
   .exact jx (.tail _ (.head _))
   .exact jx (.tail _ (.tail _ (.head _)))
   .exact jx (.tail _ (.tail _ (.tail _ (.head _))))
   .exact jx (.tail _ (.tail _ (.tail _ (.tail _ (.head _)))))
   .exact jx (.tail _ (.tail _ (.tail _ (.tail _ (.tail _ (.head _))))))
   .exact jx (.tail _ (.tail _ (.tail _ (.tail _ (.tail _ (.tail _ (.head _)))))))
  .rw [ax2.1 hh];exact aZ.right aZ.look)
 refine⟨_,kA,?_⟩;rintro x lU ⟨rfl,rfl⟩;refine⟨_,rfl,rfl,λh7=>?_,λh7=>?_⟩
 .exact no (nt λh'=>h7 (by rw[hS];exact h'.2.2.2.2)) h9
 have h7:lL S (S.table.most:Int) ((S.call.fu:Int) - 1)=true:=Decidable.not_not.1 h7;have ht:kB l=some S:=by
  unfold kB;rw[if_pos ⟨by omega,hd,Z2,XQ,by rw[<-hS];exact h7⟩,hS]
 refine⟨λS' h'=>?_,λh'=>by rw[ht]at h';cases h'⟩;rw[ht]at h';cases h';exact⟨u1,u2,u3,u4,u5,u6,u7,C,H',rfl,.cons _ (List.Sublist.refl _),hw',hP'⟩
open Go Go.RX Go.Proofs Go.Vs
theorem Pg:(oR VA 20 [] [] {} Tryz.f20).leaf BJ []=true:=
 F.kU _ [] (F.kU _ [false] (F.kU _ [false,false] (F.kU _ [false,false,false] Kd Ke) (F.kU _ [false,false,true] Kf Kg)) (F.kU _ [false,true] OH OI)) (F.kU _ [true] SH SI)
theorem Ph{ρ:Env}{v:Value}{cs:List bU}(h:Kc cs=true):aA true 93 33 v 1 (aL ρ 1 cs)=C8 true v jc:=by
 unfold Kc at h;split at h
 .rename_i a b;simp only[ai,beq_iff_eq,axS,ayc]at h;obtain⟨h1,h2⟩:=h;have e1:=dg (ρ:=ρ) h1;rw[dp]at e1;have e2: ∀j,j<32->b.den ρ j=((if j=0 then 4 else 0:Nat):Int):=λj hj=>by
   have:=dg (ρ:=ρ) (h2 j hj);rw[dp]at this;have e0:(E.den ρ (.lit (j:Int)) 0).toNat=j:=by simp[E.den]
   rwa[e0]at this
  have e3: ∀j,j<32->b.den ρ j=cb dj.cT jc j:=λj hj=>by
   rw[e2 j hj];show _=((((4::List.replicate 31 0:List Nat)++[]).getD j 0:Nat):Int)
   match j,hj with
   | 0,_=>rfl
   | j+1,hj=>
    have:((4::List.replicate 31 0:List Nat)++[]).getD (j+1) 0=0:=by
     rw[List.append_nil,ayI,ayk,List.getElem?_replicate];split<;>rfl
    rw[this];rfl
  refine congrArg (aA true 93 33 v 1) ?_;show ax .u32 1 (a.den ρ) 0++(ax .u8 32 (b.den ρ) 0++[])++[]=ax .u32 1 (bu dj.id jc) 0++(ax .u8 32 (cb dj.cT jc) 0++[])++[];have c1:ax .u32 1 (a.den ρ) 0=ax .u32 1 (bu dj.id jc) 0:=by
   unfold ax;refine List.map_congr_left λj hj=>?_
   have hj:=ayc.1 hj;dsimp only;rw[show 0*1+j=0 by omega];exact congrArg (ayD .u32) e1
  have c2:ax .u8 32 (b.den ρ) 0=ax .u8 32 (cb dj.cT jc) 0:=by
   unfold ax;refine List.map_congr_left λj hj=>?_
   have hj:=ayc.1 hj;dsimp only;rw[show 0*32+j=j by omega,e3 j hj]
  rw[c1,c2]
 .cases h
theorem KF(u:SV)(hp:List Ck)(ρ:Env)(h:BJ u hp=true): ∃(o:List dj) (v:V1),u.val ρ= .agg (j7 (plain o) v.v bh.v bh.v bh.v bh.v bh.v bh.v).toArray/\(o=[]/\v=bh\/o=jc/\(hp.map (Ck.den ρ))[1]? =some (C8 true v.v jc)):=by
 unfold BJ at h;split at h
 .rename_i cs;simp only[ai]at h;obtain⟨⟨h1,h2⟩,h3⟩:=h;have key: ∀x,(iI cs)[99]? =some x->SV.cells ρ x=[x.val ρ]->SV.val ρ (.agg cs)= .agg (SV.aq ρ plA++x.val ρ::SV.aq ρ plB).toArray:=by
   intro x hx hc;obtain⟨hl,hg⟩:=axT.1 hx;have e:iI cs=(iI cs).take 99++x::(iI cs).drop 100:=by
    rw[<-hg,List.getElem_cons_drop,List.take_append_drop]
   have:SV.aq ρ cs=SV.aq ρ plA++x.val ρ::SV.aq ρ plB:=by
    rw[<-gS,e,je,cz h1];show _++(SV.cells ρ x++SV.aq ρ _)=_;rw[hc,cz h2];rfl
   rw[SV.val,this]
  split at h3
  .rename_i hx;exact⟨[],bh,by rw[key _ hx rfl];exact congrArg (λl=>Value.agg l.toArray) (DY ρ [] _),.inl ⟨rfl,rfl⟩⟩
  .rename_i k hx;split at h3
   .rename_i c k' n aB;simp only[ai,beq_iff_eq]at h3;obtain⟨⟨rfl,hn⟩,hc⟩:=h3;have en:=dg (ρ:=ρ) hn;refine⟨jc,ρ.vv.getD k V1.nil,by rw[key _ hx rfl];exact congrArg (λl=>Value.agg l.toArray) (DY ρ jc _),.inr ⟨rfl,?_⟩⟩;show some (aA true 93 33 (ρ.vv.getD k V1.nil).v (n.den ρ 0).toNat (aL ρ (n.den ρ 0).toNat aB))=_;rw[en];exact congrArg some (Ph hc)
   .cases h3
  .cases h3
 .cases h
theorem bq.app{a b:List HP}(h:bq [] b):bq a (a++b):=by
 have:=bq.front (A:=a) h
 rwa[List.append_nil]at this
theorem bq.u_{b c:List HP}(h1:bq [] b)(h2:bq [] c):bq [] (b++c):=bq.trans h1 (bq.app h2)
theorem Ie:ao ax8 20 [] [] λr hs=> ∃(o:List dj) (v:V1),(o=[]\/o=jc)/\r= .agg (j7 (plain o) v.v bh.v bh.v bh.v bh.v bh.v bh.v).toArray/\hs=ef true (plain o) (λ_=>0) v.v bh.v bh.v bh.v bh.v bh.v bh.v++[HP.none]:=by
 have hm:=ao.EM (C:=VA) (al:=λu hs=> ∃(o:List dj) (v:V1),u= .agg (j7 (plain o) v.v bh.v bh.v bh.v bh.v bh.v bh.v).toArray/\(o=[]/\v=bh\/o=jc/\hs[1]? =some (C8 true v.v jc))) (ρ:=Bq) (args:=[]) (hp:=[]) (aY:={}) okT JQ okM Tryz.func20 (by constructor<;>rfl) (F.Kb KF Bq _ Pg) (im.none rfl);refine ao.post hm ?_;have nl: ∀t s,bq [] [aA true t s (.slice none 0 0) 0 []]:=bq.tN;have six:bq [] ([sL true bh.v [] (λ_=>0),y5 true bh.v [],aN true bh.v [],y6 true bh.v [],aN true bh.v [],ue true bh.v []]++[HP.none]):=
  bq.u_ (bq.u_ (b:=[_]) (nl 68 3) (bq.u_ (b:=[_]) (nl 36 16) (bq.u_ (b:=[_]) (nl 5 1) (bq.u_ (b:=[_]) (nl 26 2) (bq.u_ (b:=[_]) (nl 5 1) (nl 98 19)))))) bq.none
 rintro r hs ⟨o,v,rfl,h⟩;rcases h with⟨rfl,rfl⟩ | ⟨rfl,h⟩
 .exact⟨_,bq.trans (bq.sub (List.nil_sublist _)) (bq.u_ (b:=[_]) (nl 93 33) six),[],bh,.inl rfl,rfl,rfl⟩
 .have h1:bq hs [C8 true v.v jc]:=bq.idx [1] (by decide) (by
   intro m u hu
   match m,hu with
   | 0,hu=>cases hu;exact⟨1,rfl,h⟩
   | m+1,hu=>simp at hu)
  exact⟨_,bq.trans h1 (bq.app six),jc,v,.inr rfl,rfl,rfl⟩
open Go.RX Go.Proofs
noncomputable def aoc:Ctx:={T:=TT,FT:=FT,bj:=Vw.Sg,iN:=Vw.WZ}
open Go.RX Go.Proofs
set_option maxRecDepth 100000
def Ig(al:PT)(x0:Int)(A0:Nat->Int)(_:V1):Prop:=
 ∀_:Nat,ay (0<=x0) (
 ∀_ _:V1,j8 (10+x0) (
 ∀v3:V1,Cl 33 [v3.v,.int .i64 32] [aA true 5 1 v3.v (ag (10+x0)) (aG (ag (10+x0)) [ax .u8 1 (bV (bV (au (au (au (au (au (au (λ_=>0) 0 72) 1 76) 2 83) 3 84) 4 0) 5 1) 6 4 (au (au (au (au (λ_=>0) 3 (ae .u8 (ar .rem .u64 (ae .u64 x0) 256))) 2 (ae .u8 (ar .rem .u64 (ae .u64 (ar .quo .u64 (ae .u64 x0) 256)) 256))) 1 (ae .u8 (ar .rem .u64 (ae .u64 (ar .quo .u64 (ae .u64 (ar .quo .u64 (ae .u64 x0) 256)) 256)) 256))) 0 (ae .u8 (ar .rem .u64 (ae .u64 (ar .quo .u64 (ae .u64 (ar .quo .u64 (ae .u64 (ar .quo .u64 (ae .u64 x0) 256)) 256)) 256)) 256)))) 10 (ag x0) A0)])] λx hs l=> ∃(v4:V1) (A1:Nat->Int),x=v4.v/\hs=l++[aA true 5 1 v4.v 32 (aG 32 [ax .u8 1 A1])]/\
 ay (0<=(10+x0)) (
 j8 ((10+x0)+8) (
 ∀v5:V1,al (v5.v) [aA true 5 1 v5.v (ag ((10+x0)+8)) (aG (ag ((10+x0)+8)) [ax .u8 1 (bV (bV (bV (au (au (au (au (au (au (λ_=>0) 0 72) 1 76) 2 83) 3 84) 4 0) 5 1) 6 4 (au (au (au (au (λ_=>0) 3 (ae .u8 (ar .rem .u64 (ae .u64 x0) 256))) 2 (ae .u8 (ar .rem .u64 (ae .u64 (ar .quo .u64 (ae .u64 x0) 256)) 256))) 1 (ae .u8 (ar .rem .u64 (ae .u64 (ar .quo .u64 (ae .u64 (ar .quo .u64 (ae .u64 x0) 256)) 256)) 256))) 0 (ae .u8 (ar .rem .u64 (ae .u64 (ar .quo .u64 (ae .u64 (ar .quo .u64 (ae .u64 (ar .quo .u64 (ae .u64 x0) 256)) 256)) 256)) 256)))) 10 (ag x0) A0) (ag (10+x0)) 8 A1)])]))))
theorem T1(al:PT)(x0:Int)(A0:Nat->Int)(v0:V1)(h:Ig al x0 A0 v0):ao ax8 14 [v0.v] [bQ v0 x0 A0] al:=
 vm (C:=aoc) Vt.Zf Vt.Sd Vt.LW ⟨[x0],[A0],[],[],[v0],[],[],[]⟩ Tryz.func14 (by kernel_rfl) h
end Go.RX.Vb

namespace Go.RX.Fn
open Go.RX Go.RX.Fe Go.RX.Fg Go.RX.Fi Go.RX.Fj Go.RX.Fk Go.RX.Fl Go.RX.Fm
def cL(a:Nat):List bU:=[⟨.int .u64,1,.cM a⟩]
def Am(ck:Ck)(h:List Ck):List Ck:=
 match h.reverse.findIdx? (λ| .cF .. =>true | _=>false)with
 | some i=>(h.reverse.set i ck).reverse
 | none=>[]
def E8(cs:List SV):List Ck->List Ck
 | []=>[]
 | .row b w x::r=>if SV.qQ x=8 then .row b w cs::r else .row b w x::E8 cs r
 | c::r=>c::E8 cs r
def ahL:List SV->List Ck->SV
 | [.int _ (.lit n)],_=> .int .u64 (.lit (2^n.toNat))
 | _,_=> .undef
def ahM:aI:={use:=λ_ _=>[],val:=λ_=> .undef,new:=λ_ _=>[],valOf:=some ahL}
def four:aI:={use:=λ_ _=>[],inc:={i:=1},val:=λc=> .int .u64 (.var c.i),new:=λ_ _=>[]}
def aod(n:E):aI:={use:=λaz hp=>roots hp az,inc:={v:=1,a:=1},val:=λc=> .vv c.v,new:=λc h=>h++[.cF true c.v 24 1 n (cL c.a)]}
def bj(f:Nat):Option aI:=
 match f with
 | 61=>some ahM
 | 64=>some four
 | 65=>some {use:=λaz hp=>roots hp az,inc:={v:=1,a:=1},val:=λc=> .vv c.v,new:=λc _=>[.cF true c.v 24 1 (.lit 8) (cL c.a)]}
 | 60=>some (aod (.lit 80))
 | 62=>some TH
 | 33=>some (makes λ_ _=> .lit 32)
 | _=>none
def loops(f id:Nat):Option dA:=
 match f,id with
 | 61,0=>some {inc:={i:=2},aQ:=λc=>[(3,.int .u64 (.var c.i)),(4,.int .i64 (.var (c.i+1)))],hp:=λ_ h=>h}
 | 33,2=>some {inc:={i:=9},aQ:=λc=>[(11,.int .i64 (.var (c.i+8)))],hp:=λc h=>E8 (ints .u64 c.i 8) h}
 | 33,4=>some {pre:=[.slot 12 24],inc:={i:=1,v:=1,a:=1},aQ:=λc=>[(13,.int .i64 (.var c.i)),(12,.vv c.v)],hp:=λc h=>Am (.cF true c.v 24 1 (.var c.i) (cL c.a)) h}
 | 33,14=>some {pre:=[.slot 20 5],inc:={i:=2,v:=1,a:=2},aQ:=λc=>[(21,.int .i64 (.var c.i)),(20,.vv c.v)],hp:=λc h=>E8 [.jD .u64 8 (.cM (c.a+1))] (Am (.cF true c.v 5 1 (.var (c.i+1)) (cB c.a)) h)}
 | 33,8=>some {inc:={i:=1,v:=1,a:=1},aQ:=λc=>[(16,.int .i64 (.var c.i)),(12,.vv c.v)],hp:=λc h=>Am (.cF true c.v 24 1 (.var c.i) (cL c.a)) h}
 | 33,10=>some {inc:={i:=1,v:=1,a:=1},aQ:=λc=>[(18,.int .i64 (.var c.i)),(17,.vv c.v)],hp:=λc h=>Am (.cF true c.v 24 1 (.lit 8) (cL c.a)) h}
 | 62,0=>some {back:=[.swap 5 1],inc:={i:=1,a:=1,v:=1},aQ:=λc=>[(5,.vv c.v)],hp:=λc h=>TG 1 c.v (.var c.i) c.a h}
 | _,_=>none
end Go.RX.Fn
