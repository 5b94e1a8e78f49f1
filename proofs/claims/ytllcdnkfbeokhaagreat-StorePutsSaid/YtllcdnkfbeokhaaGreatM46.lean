/- A row of fields. -/
import Derived.Test.YtllcdnkfbeokhaaGreatM45
open Bool renaming and_eq_true -> ai
open Go.IntKind renaming wrap -> ae
open Go.Proofs.Tryz renaming prog -> ax8
open Go.Value renaming int -> ayD
open Int renaming natCast_nonneg -> ax4, toNat -> ag, toNat_natCast -> ax3
open List renaming append -> axQ, append_assoc -> ayl, flatMap_cons -> ayn, flatMap_nil -> ayx, forall_mem_cons -> aym, getD_cons_zero -> ah, length_append -> axP, length_cons -> ax5, length_nil -> aya, map_cons -> ayr, mem_singleton -> ax2
namespace Go.RX
open Go Go.Proofs
theorem ao.ZG{P:Program}{f:Nat}{args:List Value}{q q':HP}{L:List HP}(h:ao P f args (q::L) λr hs=>r= .tuple #[]/\hs=[q'])(hw: ∀h∈L,h.wr=false):ao P f args (q::L) λr hs=>r= .tuple #[]/\hs=q'::L:=by
 refine ao.pre (ao.post (ao.frame h L) ?_) (bq.front (A:=[q]) (bq.Ti hw));rintro r hs ⟨lU,rfl,rfl,rfl⟩;exact⟨_,bq.refl _,rfl,rfl⟩
theorem xb{f:Nat}{args:List Value}{L M:List HP}{q:HP}(h:ao ax8 f args L λr hs=>r= .tuple #[]/\hs=q::M){R:HP->Prop}(hR:R q):Cl f args L λx hs _=> ∃p:HP,x= .tuple #[]/\hs=p::M/\R p:=
 ⟨_,h,λ_ _ h=>⟨q,h.1,h.2,hR⟩⟩
end Go.RX
namespace Go.RX.Vb
open Go Go.RX Go.Proofs Go.Vs
set_option maxHeartbeats 2000000 in
theorem UI{K:HP}{b:Nat}{F:List eK}(e:bX)(he:mO e)(vs:V1)(hF:bw F (20+3*e.s.aC.length)):
  ao ax8 27 [.pointer (some ⟨b,0,none⟩),.agg (j_ e vs.v).toArray] [bT K b F,nI false vs.v e.s.aC] λr hs=>r= .tuple #[]/\hs=[bT K b (F++wZ e)]:=by
 refine Yh _ (e.s.aC.length:Int) (bi e.s.gi) (bi e.s.gj) (bi e.s.gk) (bi e.s.cS) (e.s.send.n:Int) (e.s.recv.n:Int) (e.s.prev:Int) (bi e.cZ) (e.dH:Int) (bi e.own) (bi e.current) (aJ e.s.root) (aJ e.s.bind) (aJ e.s.own) (aJ e.s.cJ) (aJ e.s.send.key) (aJ e.s.recv.key) (aJ e.ident) (aJ e.qG) (aJ (e.s.aC.flatMap fe.dh)) (bu fe.n e.s.aC) (aJ (e.s.aC.flatMap fe.msg)) vs b HP.emp (bT K b F) ?_;unfold MT;intro b1;have hF2:bw F (14+3*e.s.aC.length):=by unfold bw at*;omega
 refine xb (ao.ZG (PE e.s he.ses vs hF2) λh hh=>by rw[ax2.1 hh];rfl) ?_;intro b2;refine cg (nN [e.ident,e.qG] (aym.2 ⟨he.ident,aym.2 ⟨he.qG,λ_ h=>(nomatch h)⟩⟩) rfl rfl (by unfold bw at*;simp only[axP,qC,ax5,aya];omega)) ?_;intro b3;refine cg (Cg [e.cZ] (by rw[jv];rfl) rfl (by unfold bw at*;simp only[axP,cY,qC,ax5,aya];omega)) ?_;intro b4;refine cg (jz (c:=52) rfl [e.dH] (by show [ayD .u64 (ae .u64 _)]=_;rw[wU he.once];rfl) rfl (by unfold bw at*;simp only[axP,cY,dV,qC,ax5,aya];omega)) ?_;intro b5;refine cg (Cg [e.own,e.current] (by rw[jv,jv];rfl) rfl (by unfold bw at*;simp only[axP,cy,cY,dV,qC,ax5,aya];omega)) ?_;refine⟨rfl,?_⟩;unfold wZ;simp only[ayl]
theorem UJ{K:HP}{b:Nat}{F:List eK}(e:bX)(he:mO e)(c:Int)(hK:K.wr=false)(hg:cX K (nI false (bg c) e.s.aC))(hF:bw F (20+3*e.s.aC.length)):
  ao ax8 27 [.pointer (some ⟨b,0,none⟩),.agg (j_ e (bg c)).toArray] [bT K b F,K] λr hs=>r= .tuple #[]/\hs=[bT K b (F++wZ e),K]:=by
 refine ao.pre (ao.post (ao.frame (UI e he ⟨bg c,iU c⟩ hF) [K]) ?_) (bq.front (A:=[bT K b F]) (cX.SF hK hg));rintro r hs ⟨lU,rfl,rfl,rfl⟩;exact⟨_,bq.refl _,rfl,rfl⟩
structure ZH (c:Vs.Call):Prop where
 me:c.me.a<256/\c.me.d<256
 dl:c.bE.length=8
 db: ∀x∈c.bE,x<256
 de:c.dead.length<256^4
 di: ∀x∈c.dead,x.length=16
 st:c.state<256
 id:c.id.length=16
 ac:c.aM<256
 pe:c.peer.a<256/\c.peer.d<256
 k: ∀x∈[c.own,c.cH,c.fi],x.length=32
 an:c.fu<256
 ea:c.early.length<256^4
 ed: ∀x∈c.early,x.a<256/\x.d<256
 be:c.fQ<256^4
theorem Ec{c:Vs.Call}(h:c.bE.length=8):(zj c).length=29+c.dead.length+2*c.early.length:=by
 unfold zj;simp only[axP,cy,cY,dV,cn,eA,j5 pM 2 c.early λx _=>rfl,ax5,aya,h];omega
set_option maxHeartbeats 4000000 in
theorem PF{K:HP}(hK:K.wr=false){b:Nat}{F:List eK}(c:Vs.Call)(hc:ZH c)(v0 v1 v2:V1)(hg:cX K (aN false v1.v c.marks))(hF:bw F (29+c.dead.length+2*c.early.length)):
  ao ax8 28 [.pointer (some ⟨b,0,none⟩),.agg (.int .u8 (c.me.a:Int)::(.int .u8 (c.me.d:Int)::(axQ (aj .u8 8 (aJ c.bE)) (v0.v::(.int .u8 (c.state:Int)::(axQ (aj .u8 16 (aJ c.id)) (.bool (!(bi c.out==0))::(.int .u8 (c.aM:Int)::(.int .u8 (c.peer.a:Int)::(.int .u8 (c.peer.d:Int)::(axQ (aj .u8 32 (aJ c.own)) (axQ (aj .u8 32 (aJ c.cH)) (axQ (aj .u8 32 (aJ c.fi)) ([v1.v,.int .i64 ((c.fu:Int) - 1),v2.v,.int .u64 (c.eD:Int),.int .u64 (c.bP:Int),.int .u64 (c.since:Int),.int .u64 (c.heard:Int),.int .u64 (c.lJ:Int),.int .u32 (c.fQ:Int)])))))))))))))).toArray] [bT K b F,y5 false v0.v c.dead,aN false v1.v c.marks,y6 false v2.v c.early] λr hs=>r= .tuple #[]/\hs=[bT K b (F++zj c)]:=by
 refine Yi _ (c.me.a:Int) (c.me.d:Int) (c.state:Int) (bi c.out) (c.aM:Int) (c.peer.a:Int) (c.peer.d:Int) ((c.fu:Int) - 1) (c.eD:Int) (c.bP:Int) (c.since:Int) (c.heard:Int) (c.lJ:Int) (c.fQ:Int) (c.dead.length:Int) (c.marks.length:Int) (c.early.length:Int) (aJ c.bE) (aJ c.id) (aJ c.own) (aJ c.cH) (aJ c.fi) (cb (λx=>x) c.dead) (aJ c.marks) (bu js.a c.early) (bu js.d c.early) v0 v1 v2 b HP.emp (bT K b F) ?_;unfold MU;have hde:=hc.de;have hea:=hc.ea;rw[show(256^4:Nat)=4294967296 by decide]at hde hea;have hdl:=hc.dl;intro b1;refine cg (oF c.me rfl rfl hc.me.1 hc.me.2 (by unfold bw at*;omega)) ?_;obtain⟨G1,hG1⟩: ∃G,G=F++pM c.me:=⟨_,rfl⟩;rw[<-hG1];have aoz:G1.length=F.length+2:=by rw[hG1,axP,cn]
 refine⟨λe=> ∃j:Nat,e=⟨[],[],[(j:Int)],[],[],[bT K b (G1++fN 49 (c.bE.take j))],[]⟩/\j<=8,λe=>8 - (e.i.getD 0 0).toNat,⟨0,_,rfl,rfl,0,by rw[List.take_zero,show fN 49 []=[]from rfl,List.append_nil];rfl,Nat.zero_le _⟩,?_⟩;rintro cq p3 ⟨j,he,hj⟩;simp only[Ext.mk.injEq,List.cons.injEq,and_true,true_and]at he;obtain⟨rfl,rfl⟩:=he;refine⟨λcC=>?_,λlS=>?_⟩
 .have eF:j<c.bE.length:=by omega
  have e2:aJ c.bE (ag (j:Int))=((c.bE[j]:Nat):Int):=gL eF;refine⟨ax4 _,λ_ b2=>?_⟩;refine cg (jz (c:=49) rfl [c.bE[j]] (by show [ayD .u64 (ae .u64 _)]=_;rw[e2,wU (u8w (hc.db _ (List.getElem_mem eF)))];rfl) rfl (by unfold bw at*;simp only[axP,cy,List.length_take,ax5,aya];omega)) ?_;refine⟨by omega,λ_=>⟨by omega,λ_=>⟨((j+1:Nat):Int),_,rfl,rfl,⟨j+1,?_,by omega⟩,?_⟩⟩⟩
  .rw [Ap 49 c.bE j eF];rfl
  .simp only[ah];omega
 have hj8:j=c.bE.length:=by omega
 subst hj8;rw[List.take_length];refine⟨ax4 _,λ_ b2=>?_⟩;refine cg (jz (c:=108) rfl [c.dead.length] (by show [ayD .u64 (ae .u64 _)]=_;rw[wU hc.de];rfl) rfl (by unfold bw at*;simp only[axP,cy,ax5,aya];omega)) ?_;obtain⟨G2,hG2⟩: ∃G,G=G1++fN 49 c.bE++fN 108 [c.dead.length]:=⟨_,rfl⟩;rw[<-hG2];have aoA:G2.length=F.length+11:=by rw[hG2];simp only[axP,cy,ax5,aya];omega
 refine⟨λe=> ∃j:Nat,e=⟨[],[],[(j:Int)],[],[],[bT K b (G2++fK (c.dead.take j))],[]⟩/\j<=c.dead.length,λe=>c.dead.length - (e.i.getD 0 0).toNat,⟨0,_,rfl,rfl,0,by rw[List.take_zero,show fK []=[]from rfl,List.append_nil];rfl,Nat.zero_le _⟩,?_⟩;rintro dt p5 ⟨j,he,hj⟩;simp only[Ext.mk.injEq,List.cons.injEq,and_true,true_and]at he;obtain⟨rfl,rfl⟩:=he;refine⟨λcC=>?_,λlS=>?_⟩
 .have eF:j<c.dead.length:=by omega
  refine⟨ax4 _,λ_ b3=>?_⟩;refine cg (K1 c.dead[j] (hc.di _ (List.getElem_mem eF)) (λq hq=>by
   show aJ (c.dead.flatMap λx=>x) (_+q)=_;rw[show ag ((j:Int)*16)=j*16 by omega];exact jX (λx=>x) 16 c.dead hc.di j q eF hq) (by unfold bw at*;simp only[axP,cY,List.length_take];omega)) ?_
  refine⟨by omega,λ_=>⟨by omega,λ_=>⟨((j+1:Nat):Int),_,rfl,rfl,⟨j+1,?_,by omega⟩,?_⟩⟩⟩
  .rw [Aq c.dead j eF];rfl
  .simp only[ah];omega
 have hjd:j=c.dead.length:=by omega
 subst hjd;rw[List.take_length];intro b3;refine cg (jz (c:=49) rfl [c.state] (by show [ayD .u64 (ae .u64 _)]=_;rw[wU (u8w hc.st)];rfl) rfl (by unfold bw at*;simp only[axP,cY,ax5,aya];omega)) ?_;refine cg (K1 c.id hc.id (λ_ _=>rfl) (by unfold bw at*;simp only[axP,cy,cY,ax5,aya];omega)) ?_;intro b4;refine cg (Cg [c.out] (by rw[jv];rfl) rfl (by unfold bw at*;simp only[axP,cy,cY,ax5,aya];omega)) ?_;intro b5;refine cg (jz (c:=49) rfl [c.aM] (by show [ayD .u64 (ae .u64 _)]=_;rw[wU (u8w hc.ac)];rfl) rfl (by unfold bw at*;simp only[axP,cy,cY,dV,ax5,aya];omega)) ?_;refine cg (oF c.peer rfl rfl hc.pe.1 hc.pe.2 (by unfold bw at*;simp only[axP,cy,cY,dV,ax5,aya];omega)) ?_;intro b6;refine cg (nN [c.own,c.cH,c.fi] hc.k rfl rfl (by unfold bw at*;simp only[axP,cy,cY,dV,cn,ax5,aya];omega)) ?_;refine xb (MY hK hg (by unfold bw at*;simp only[axP,cy,cY,dV,cn,ax5,aya];omega)) ?_;refine⟨by omega,λ_=>⟨by have:=hc.an;omega,λ_ b7=>?_⟩⟩;rw[show(c.fu:Int) - 1+1=(c.fu:Int) by omega];refine cg (jz (c:=49) rfl [c.fu] (by show [ayD .u64 (ae .u64 _)]=_;rw[wU (u8w hc.an)];rfl) rfl (by unfold bw at*;simp only[axP,cy,cY,dV,cn,eA,ax5,aya];omega)) ?_;refine⟨ax4 _,λ_ b8=>?_⟩
 refine cg (jz (c:=108) rfl [c.early.length] (by show [ayD .u64 (ae .u64 _)]=_;rw[wU hc.ea];rfl) rfl (by unfold bw at*;simp only[axP,cy,cY,dV,cn,eA,ax5,aya];omega)) ?_;obtain⟨G3,hG3⟩: ∃G,G=G2++fK c.dead++fN 49 [c.state]++fK [c.id]++fB [c.out]++fN 49 [c.aM]++pM c.peer++fK [c.own,c.cH,c.fi]++fS c.marks++fN 49 [c.fu]++fN 108 [c.early.length]:=⟨_,rfl⟩;rw[<-hG3];have aoB:G3.length=F.length+23+c.dead.length:=by rw[hG3];simp only[axP,cy,cY,dV,cn,eA,ax5,aya];omega
 refine⟨λe=> ∃j:Nat,e=⟨[],[],[(j:Int)],[],[],[bT K b (G3++(c.early.take j).flatMap pM)],[]⟩/\j<=c.early.length,λe=>c.early.length - (e.i.getD 0 0).toNat,⟨0,_,rfl,rfl,0,by rw[List.take_zero,ayx,List.append_nil];rfl,Nat.zero_le _⟩,?_⟩;rintro cO FZ ⟨j,he,hj⟩;simp only[Ext.mk.injEq,List.cons.injEq,and_true,true_and]at he;obtain⟨rfl,rfl⟩:=he;have hl:=j5 pM 2 (c.early.take j) λx _=>rfl
 rw[List.length_take,Nat.min_eq_left hj]at hl;refine⟨λcC=>?_,λlS=>?_⟩
 .have eF:j<c.early.length:=by omega
  have hed:=hc.ed _ (List.getElem_mem eF);refine⟨ax4 _,λ_ b9=>?_⟩;refine cg (oF c.early[j] (ej js.a c.early j eF) (ej js.d c.early j eF) hed.1 hed.2 (by unfold bw at*;simp only[axP];omega)) ?_;refine⟨by omega,λ_=>⟨by omega,λ_=>⟨((j+1:Nat):Int),_,rfl,rfl,⟨j+1,?_,by omega⟩,?_⟩⟩⟩
  .rw [du _ _ eF,List.flatMap_append];simp only[ayn,ayx,List.append_nil,ayl]
  .simp only[ah];omega
 have hje:j=c.early.length:=by omega
 subst hje;rw[List.take_length]at hl ⊢;intro b9;refine cg (jz (c:=56) rfl [c.eD,c.bP,c.since,c.heard,c.lJ] rfl rfl (by unfold bw at*;simp only[axP,ax5,aya];omega)) ?_;intro y4;refine cg (jz (c:=52) rfl [c.fQ] (by show [ayD .u64 (ae .u64 _)]=_;rw[wU hc.be];rfl) rfl (by unfold bw at*;simp only[axP,cy,ax5,aya];omega)) ?_;refine⟨rfl,?_⟩;rw[hG3,hG2,hG1];unfold zj;simp only[ayl]
open Go Go.RX Go.Proofs Go.Vs
theorem Yn{K:HP}{b:Nat}{F:List eK}(e:bX)(he:mO e)(c:Int){row:List Value}(rM:row=j_ e (bg c))(hK:K.wr=false)(hg:cX K (nI false (bg c) e.s.aC))(hF:bw F (20+3*e.s.aC.length)):
  ao ax8 27 [.pointer (some ⟨b,0,none⟩),.agg row.toArray] [bT K b F,K] λr hs=>r= .tuple #[]/\hs=[bT K b (F++wZ e),K]:=by
 subst rM;exact UJ e he c hK hg hF
def UK(l:List bX):Nat:=(l.map λe=>20+3*e.s.aC.length).sum
theorem yp: ∀l:List bX,(l.flatMap wZ).length=UK l
 | []=>rfl
 | x::l=>by
  rw[ayn,axP,yp l,UH];rfl
theorem UL: ∀l:List bX,UK l<=wS l
 | []=>Nat.le_refl _
 | x::l=>by
  have:=UL l;show(20+3*x.s.aC.length)+UK l<=(400+68*x.s.aC.length)+wS l;omega
theorem UM(l:List bX)(i:Nat)(h:i<l.length):UK (l.take i)+(20+3*l[i].s.aC.length)<=UK l:=by
 unfold UK;have e:l=l.take i++l[i]::l.drop (i+1):=by rw[List.getElem_cons_drop,List.take_append_drop]
 conv=>rhs;rw[e]
 rw[List.map_append,List.sum_append,ayr,List.sum_cons];omega
def MZ(l:List eu):Nat:=(l.map λp=>3+UK p.l).sum
theorem rz: ∀l:List eu,(l.flatMap pk).length=MZ l
 | []=>rfl
 | x::l=>by
  rw[ayn,axP,rz l];show(pM x.dev++fN 108 [x.l.length]++x.l.flatMap wZ).length+MZ l=(3+UK x.l)+MZ l;rw[axP,axP,cn,cy,yp];rfl
theorem UN(l:List eu)(i:Nat)(h:i<l.length):MZ (l.take i)+(3+UK l[i].l)<=MZ l:=by
 unfold MZ;have e:l=l.take i++l[i]::l.drop (i+1):=by rw[List.getElem_cons_drop,List.take_append_drop]
 conv=>rhs;rw[e]
 rw[List.map_append,List.sum_append,ayr,List.sum_cons];omega
theorem UO{s:Vs.State}(h:zR s)(hd: ∀x∈s.call.bE,x<256):ZH s.call:=
 ⟨⟨h.mea,h.med⟩,h.bE,hd,h.dead,h.agp,h.state,h.id,h.aM,⟨h.pa,h.pd⟩,aym.2 ⟨h.own,aym.2 ⟨h.cH,aym.2 ⟨h.fi,λ_ h=>(nomatch h)⟩⟩⟩,h.cP,h.early,λx hx=>⟨h.abA x hx,h.abB x hx⟩,h.fQ⟩
set_option maxRecDepth 100000 in
set_option maxHeartbeats 8000000 in
theorem FB(s:Vs.State)(u1 u2 u3 u4 u5 u6 u7:V1)(C:Nat->Int)(H:HP)(hH:H.wr=false)(hP:lK H s.table.aD C)(hs:zR s)(hd: ∀x∈s.call.bE,x<256)
  (hm:cX H (aN false u4.v s.call.marks)) (Bn:cX H (aN false u6.v s.log)) (si:100+2*s.table.keys.once.length+MZ s.table.aD+s.call.dead.length+2*s.call.early.length+4*s.aF.length<=3518437208883):
  ao ax8 12 [.agg (j7 s u1.v u2.v u3.v u4.v u5.v u6.v u7.v).toArray] (ef false s C u1.v u2.v u3.v u4.v u5.v u6.v u7.v++[H]) λr hs=> ∃(v:V1) (D:Nat->Int) (H':HP),r=v.v/\hs=[hU true v.v (fo s) D,H']/\H'.wr=true/\my (HP.look H') H (fo s) D:=by
 refine ao.post (Yj (λr hs=> ∃(v:V1) (D:Nat->Int) (H':HP),r=v.v/\List.Sublist [hU true v.v (fo s) D,H'] hs/\H'.wr=true/\my (HP.look H') H (fo s) D) (s.drawn:Int) (s.table.keys.dev.a:Int) (s.table.keys.dev.d:Int) (s.table.most:Int) (s.call.me.a:Int) (s.call.me.d:Int) (s.call.state:Int) (bi s.call.out) (s.call.aM:Int) (s.call.peer.a:Int) (s.call.peer.d:Int) ((s.call.fu:Int) - 1) (s.call.eD:Int) (s.call.bP:Int) (s.call.since:Int) (s.call.heard:Int) (s.call.lJ:Int) (s.call.fQ:Int) (s.table.keys.once.length:Int) (s.table.aD.length:Int) (s.call.dead.length:Int) (s.call.marks.length:Int) (s.call.early.length:Int) (s.log.length:Int) (s.aF.length:Int) (aJ s.lW) (aJ s.table.keys.ident) (aJ s.table.keys.signed) (aJ s.call.bE) (aJ s.call.id) (aJ s.call.own) (aJ s.call.cH) (aJ s.call.fi) (bu dj.id s.table.keys.once) (cb dj.cT s.table.keys.once) (bu (λp:eu=>p.dev.a) s.table.aD) (bu (λp:eu=>p.dev.d) s.table.aD) C (cb (λx=>x) s.call.dead) (aJ s.call.marks) (bu js.a s.call.early) (bu js.d s.call.early) (aJ s.log) (cb Room.id s.aF) (bu Room.aM s.aF) (dK Room.out s.aF) (bu Room.since s.aF) u1 u2 u3 u4 u5 u6 u7 H ?_) ?_;rotate_left
 .rintro r hs ⟨v,D,H',h1,h2,h3⟩;exact⟨_,bq.sub h2,v,D,H',h1,rfl,h3⟩
 unfold MV;intro b0 b;refine⟨λe=>e=⟨[],[],[],[],[],[bT H b []],[]⟩,λw Fs ho=>⟨bT H b [],?_,rfl⟩,?_⟩
 .have e1:bq [ak b true [.slice none 0 0]] [bT H b []]:=
   bq.trans (bq.front (A:=[ak b true [.slice none 0 0]]) (a:=[]) (bq.u_ (b:=[_]) (bq.tN 84 3) bq.none)) (Ar (F:=[]) (v:=bh) (C:=λ_=>0) (H':=HP.none) rfl λi hi=>absurd hi (Nat.not_lt_zero i))
  exact e1 w Fs ho
 rintro p1 he;simp only[Ext.mk.injEq,List.cons.injEq,and_true,true_and]at he;obtain rfl:=he;intro b2;refine cg (nN [s.lW] (aym.2 ⟨hs.lW,λ_ h=>(nomatch h)⟩) rfl rfl (by unfold bw at*;simp only[ax5,aya];omega)) ?_;intro b3;refine cg (jz (c:=56) rfl [s.drawn] rfl rfl (by unfold bw at*;simp only[axP,cY,ax5,aya];omega)) ?_;intro b4;refine cg (oF s.table.keys.dev rfl rfl hs.kda hs.kdd (by unfold bw at*;simp only[axP,cy,cY,ax5,aya];omega)) ?_;intro b5;refine cg (nN [s.table.keys.ident,s.table.keys.signed] (aym.2 ⟨hs.abz,aym.2 ⟨hs.Xi,λ_ h=>(nomatch h)⟩⟩) rfl rfl (by unfold bw at*;simp only[axP,cy,cY,cn,ax5,aya];omega)) ?_;refine⟨ax4 _,λ_ b6=>?_⟩;refine cg (jz (c:=108) rfl [s.table.keys.once.length] (by show [ayD .u64 (ae .u64 _)]=_;rw[wU hs.once];rfl) rfl (by unfold bw at*;simp only[axP,cy,cY,cn,ax5,aya];omega)) ?_;have h1:=hs.once;have h2:=hs.aD;have h3:=hs.aF;rw[show(256^4:Nat)=4294967296 by decide]at h1 h2 h3;obtain⟨G1,hG1⟩: ∃G,G=[]++fK [s.lW]++fN 56 [s.drawn]++pM s.table.keys.dev++fK [s.table.keys.ident,s.table.keys.signed]++fN 108 [s.table.keys.once.length]:=⟨_,rfl⟩;rw[<-hG1];have aoz:G1.length=7:=by rw[hG1];rfl
 refine⟨λe=> ∃j:Nat,e=⟨[],[],[(j:Int)],[],[],[bT H b (G1++(s.table.keys.once.take j).flatMap w6)],[]⟩/\j<=s.table.keys.once.length,λe=>s.table.keys.once.length - (e.i.getD 0 0).toNat,⟨0,_,rfl,rfl,0,by rw[List.take_zero,ayx,List.append_nil];rfl,Nat.zero_le _⟩,?_⟩;rintro i_ p7 ⟨j,he,hj⟩;simp only[Ext.mk.injEq,List.cons.injEq,and_true,true_and]at he;obtain⟨rfl,rfl⟩:=he;have hl:=j5 w6 2 (s.table.keys.once.take j) λx _=>rfl
 rw[List.length_take,Nat.min_eq_left hj]at hl;refine⟨λcC=>?_,λlS=>?_⟩
 .have eF:j<s.table.keys.once.length:=by omega
  have e2:bu dj.id s.table.keys.once (ag (j:Int))=((s.table.keys.once[j].id:Nat):Int):=ej _ _ j eF;have e3:=iO dj.cT 32 s.table.keys.once hs.Zj j eF;refine⟨ax4 _,λ_ b7 b8=>?_⟩;refine cg (jz (c:=52) rfl [s.table.keys.once[j].id] (by show [ayD .u64 (ae .u64 _)]=_;rw[e2,wU (hs.dH _ (List.getElem_mem eF))];rfl) rfl (by unfold bw;simp only[axP,ax5,aya];omega)) ?_;intro b9;refine cg (nN [s.table.keys.once[j].cT] (aym.2 ⟨hs.Zj _ (List.getElem_mem eF),λ_ h=>(nomatch h)⟩) (congrArg (λl=>axQ l []) e3) rfl (by unfold bw;simp only[axP,cy,ax5,aya];omega)) ?_;refine⟨by omega,λ_=>⟨by omega,λ_=>⟨((j+1:Nat):Int),_,rfl,rfl,⟨j+1,?_,by omega⟩,?_⟩⟩⟩
  .rw [du _ _ eF,List.flatMap_append];simp only[ayn,ayx,List.append_nil,ayl,w6]
  .simp only[ah];omega
 have hjo:j=s.table.keys.once.length:=by omega
 subst hjo;rw[List.take_length]at hl ⊢;intro b7;refine cg (jz (c:=52) rfl [s.table.most] (by show [ayD .u64 (ae .u64 _)]=_;rw[wU hs.most];rfl) rfl (by unfold bw;simp only[axP,ax5,aya];omega)) ?_;refine⟨ax4 _,λ_ b8=>?_⟩;refine cg (jz (c:=108) rfl [s.table.aD.length] (by show [ayD .u64 (ae .u64 _)]=_;rw[wU hs.aD];rfl) rfl (by unfold bw;simp only[axP,cy,ax5,aya];omega)) ?_;obtain⟨G2,hG2⟩: ∃G,G=G1++s.table.keys.once.flatMap w6++fN 52 [s.table.most]++fN 108 [s.table.aD.length]:=⟨_,rfl⟩;rw[<-hG2];have aoA:G2.length=9+2*s.table.keys.once.length:=by rw[hG2];simp only[axP,cy,ax5,aya];omega
 refine⟨λe=> ∃i:Nat,e=⟨[],[],[(i:Int)],[],[],[bT H b (G2++(s.table.aD.take i).flatMap pk)],[]⟩/\i<=s.table.aD.length,λe=>s.table.aD.length - (e.i.getD 0 0).toNat,⟨0,_,rfl,rfl,0,by rw[List.take_zero,ayx,List.append_nil];rfl,Nat.zero_le _⟩,?_⟩;rintro ki Qg ⟨i,he,hi⟩;simp only[Ext.mk.injEq,List.cons.injEq,and_true,true_and]at he;obtain⟨rfl,rfl⟩:=he;refine⟨λcC=>?_,λlS=>?_⟩
 .have cj:i<s.table.aD.length:=by omega
  have hft:=UN s.table.aD i cj;obtain⟨D,hg,hS⟩:=hP i cj;have hda:bu (λp:eu=>p.dev.a) s.table.aD (ag (i:Int))=((s.table.aD[i].dev.a:Nat):Int):=ej _ _ i cj;have hdd:bu (λp:eu=>p.dev.d) s.table.aD (ag (i:Int))=((s.table.aD[i].dev.d:Nat):Int):=ej _ _ i cj;have hgl:((s.table.aD.take i).flatMap pk).length=MZ (s.table.aD.take i):=rz _;have Ds:(s.table.aD.take (i+1)).flatMap pk=(s.table.aD.take i).flatMap pk++pk s.table.aD[i]:=by rw[du _ _ cj,List.flatMap_append,ayn,ayx,List.append_nil]
  have Jk:kb s.table.aD[i]:=hs.peer _ (List.getElem_mem cj);generalize s.table.aD[i]=p at*;obtain⟨V,hV⟩: ∃V:V1,V.v=bg (C i):=⟨⟨bg (C i),iU _⟩,rfl⟩;rw[<-hV]at hg;have ept:=Ff C i V hV;have ZA:aA false 68 3 u2.v s.table.aD.length (aG s.table.aD.length [ax .u8 1 (bu (·.dev.a) s.table.aD),ax .u8 1 (bu (·.dev.d) s.table.aD),cV 1 (λj=>if j=i then V.v else bg (C j))])=sL false u2.v s.table.aD C:=by rw[ept]
  have NG:=Jk.many;rw[show(256^4:Nat)=4294967296 by decide]at NG;refine⟨λe=>e=⟨[],[V],[(p.l.length:Int)],[cb (·.s.root) p.l,cb (·.s.bind) p.l,cb (·.s.own) p.l,cb (·.s.cJ) p.l,dK (·.s.gi) p.l,dK (·.s.gj) p.l,dK (·.s.gk) p.l,dK (·.s.cS) p.l,cb (·.s.send.key) p.l,bu (·.s.send.n) p.l,cb (·.s.recv.key) p.l,bu (·.s.recv.n) p.l,bu (·.s.prev) p.l,D,cb (·.ident) p.l,cb (·.qG) p.l,dK (·.cZ) p.l,bu (·.dH) p.l,dK (·.own) p.l,dK (·.current) p.l],[],[],[]⟩,λw Fs ho=>⟨V,(p.l.length:Int),cb (·.s.root) p.l,cb (·.s.bind) p.l,cb (·.s.own) p.l,cb (·.s.cJ) p.l,dK (·.s.gi) p.l,dK (·.s.gj) p.l,dK (·.s.gk) p.l,dK (·.s.cS) p.l,cb (·.s.send.key) p.l,bu (·.s.send.n) p.l,cb (·.s.recv.key) p.l,bu (·.s.recv.n) p.l,bu (·.s.prev) p.l,D,cb (·.ident) p.l,cb (·.qG) p.l,dK (·.cZ) p.l,bu (·.dH) p.l,dK (·.own) p.l,dK (·.current) p.l,?_,rfl⟩,?_⟩
  .have e1:bq [sL false u2.v s.table.aD C,H] [sL false u2.v s.table.aD C,H,ez false V.v p.l D]:=bq.front (A:=[_]) (bq.trans (cX.SF hH hg) (bq.perm (List.Perm.swap _ _ _)));have e2:bq [sL false u2.v s.table.aD C,H] [aA false 68 3 u2.v s.table.aD.length (aG s.table.aD.length [ax .u8 1 (bu (·.dev.a) s.table.aD),ax .u8 1 (bu (·.dev.d) s.table.aD),cV 1 (λj=>if j=i then V.v else bg (C j))]),H,ez false V.v p.l D]:=by
    rw[ZA];exact e1
   exact e2 w Fs ho
  rintro v7 iM iB jk iG kH mT mQ oS qH pK qI rO sH sI vo vp uU wD vq wE wF he;have he:=he.symm;simp only[Ext.mk.injEq,List.cons.injEq,and_true,true_and]at he;obtain⟨rfl,rfl,rfl,rfl,rfl,rfl,rfl,rfl,rfl,rfl,rfl,rfl,rfl,rfl,rfl,rfl,rfl,rfl,rfl,rfl,rfl,rfl⟩:=he;refine⟨ax4 _,λ_ b9=>⟨λ_=>True,λw Fs ho=>⟨?_,trivial⟩,λ_=>?_⟩⟩
  .have e1:bq [aA false 68 3 u2.v s.table.aD.length (aG s.table.aD.length [ax .u8 1 (bu (·.dev.a) s.table.aD),ax .u8 1 (bu (·.dev.d) s.table.aD),cV 1 (λj=>if j=i then V.v else bg (C j))]),ez false V.v p.l D] [sL false u2.v s.table.aD C,ez false V.v p.l D]:=by
    rw[ZA];exact bq.refl _
   exact e1 w Fs ho
  refine cg (oF p.dev hda hdd Jk.a Jk.d (by unfold bw;simp only[axP];omega)) ?_;refine⟨ax4 _,λ_ y4=>?_⟩;refine cg (jz (c:=108) rfl [p.l.length] (by show [ayD .u64 (ae .u64 _)]=_;rw[wU Jk.many];rfl) rfl (by unfold bw;simp only[axP,cn,ax5,aya];omega)) ?_;obtain⟨G3,hG3⟩: ∃G,G=G2++(s.table.aD.take i).flatMap pk++pM p.dev++fN 108 [p.l.length]:=⟨_,rfl⟩;rw[<-hG3];have aoB:G3.length=12+2*s.table.keys.once.length+MZ (s.table.aD.take i):=by rw[hG3];simp only[axP,cy,cn,ax5,aya];omega
  refine⟨λe=> ∃j:Nat,e=⟨[],[],[(j:Int)],[],[],[bT H b (G3++(p.l.take j).flatMap wZ)],[]⟩/\j<=p.l.length,λe=>p.l.length - (e.i.getD 0 0).toNat,⟨0,_,rfl,rfl,0,by rw[List.take_zero,ayx,List.append_nil];rfl,Nat.zero_le _⟩,?_⟩;rintro jY Qh ⟨j,he,hj⟩;simp only[Ext.mk.injEq,List.cons.injEq,and_true,true_and]at he;obtain⟨rfl,rfl⟩:=he;have hgj:((p.l.take j).flatMap wZ).length=UK (p.l.take j):=yp _;refine⟨λagG=>?_,λTt=>?_⟩
  .have eF:j<p.l.length:=by omega
   have hfe:=UM p.l j eF;refine⟨ax4 _,λ_ DR=>?_⟩;refine xb (Yn p.l[j] (Jk.qx _ (List.getElem_mem eF)) (D j) ?_ hH (hS j eF) (by unfold bw;simp only[axP];omega)) ?_
   .have e32: ∀n:Nat,(j:Int)*32=(j:Int)*((32:Nat):Int):=λ_=>rfl
    rw[e32 0,iO (·.s.root) 32 p.l (λx hx=>by have h:=Jk.qx x hx;exact h.root) j eF,iO (·.s.bind) 32 p.l (λx hx=>by have h:=Jk.qx x hx;exact h.bind) j eF,iO (·.s.own) 32 p.l (λx hx=>by have h:=Jk.qx x hx;exact h.own) j eF,iO (·.s.cJ) 32 p.l (λx hx=>by have h:=Jk.qx x hx;exact h.cJ) j eF,iO (·.s.send.key) 32 p.l (λx hx=>by have h:=Jk.qx x hx;exact h.sk) j eF,iO (·.s.recv.key) 32 p.l (λx hx=>by have h:=Jk.qx x hx;exact h.rk) j eF,iO (·.ident) 32 p.l (λx hx=>by have h:=Jk.qx x hx;exact h.ident) j eF,iO (·.qG) 32 p.l (λx hx=>by have h:=Jk.qx x hx;exact h.qG) j eF];simp only[ax3];rw[gW (·.s.gi) p.l j eF,gW (·.s.gj) p.l j eF,gW (·.s.gk) p.l j eF,gW (·.s.cS) p.l j eF,gW (·.cZ) p.l j eF,gW (·.own) p.l j eF,gW (·.current) p.l j eF,ej (·.s.send.n) p.l j eF,ej (·.s.recv.n) p.l j eF,ej (·.s.prev) p.l j eF,ej (·.dH) p.l j eF]
   refine⟨by omega,λ_=>⟨by omega,λ_=>⟨((j+1:Nat):Int),_,rfl,rfl,⟨j+1,?_,by omega⟩,?_⟩⟩⟩
   .rw [du _ _ eF,List.flatMap_append];simp only[ayn,ayx,List.append_nil,ayl]
   .simp only[ah];omega
  have hje:j=p.l.length:=by omega
  subst hje;rw[List.take_length];refine⟨by omega,λ_=>⟨by omega,λ_=>?_⟩⟩;refine⟨λ_=>True,λw Fs ho=>⟨bq.sub (a:=[_]) (b:=[]) (List.nil_sublist _) w Fs ho,trivial⟩,λ_=>?_⟩;refine⟨((i+1:Nat):Int),_,rfl,rfl,⟨i+1,?_,by omega⟩,?_⟩
  .rw [Ds,hG3];simp only[pk,ayl]
  .simp only[ah];omega
 have hip:i=s.table.aD.length:=by omega
 subst hip;rw[List.take_length];have hgl:(s.table.aD.flatMap pk).length=MZ s.table.aD:=rz _;refine xb (ao.ZG (PF hH s.call (UO hs hd) u3 u4 u5 hm (by unfold bw;simp only[axP];omega)) λh hh=>by
  simp only[List.mem_cons,List.not_mem_nil,or_false]at hh;rcases hh with rfl | rfl | rfl<;>rfl) ?_
 have fO:=Ec hs.bE;refine xb (MY hH Bn (by unfold bw;simp only[axP];omega)) ?_;refine⟨ax4 _,λ_ b9=>?_⟩;refine cg (jz (c:=108) rfl [s.aF.length] (by show [ayD .u64 (ae .u64 _)]=_;rw[wU hs.aF];rfl) rfl (by unfold bw;simp only[axP,eA,ax5,aya];omega)) ?_;obtain⟨G4,hG4⟩: ∃G,G=G2++s.table.aD.flatMap pk++zj s.call++fS s.log++fN 108 [s.aF.length]:=⟨_,rfl⟩;rw[<-hG4];have avk:G4.length=40+2*s.table.keys.once.length+MZ s.table.aD+s.call.dead.length+2*s.call.early.length:=by rw[hG4];simp only[axP,cy,eA,ax5,aya];omega
 refine⟨λe=> ∃j:Nat,e=⟨[],[],[(j:Int)],[],[],[bT H b (G4++(s.aF.take j).flatMap w7)],[]⟩/\j<=s.aF.length,λe=>s.aF.length - (e.i.getD 0 0).toNat,⟨0,_,rfl,rfl,0,by rw[List.take_zero,ayx,List.append_nil];rfl,Nat.zero_le _⟩,?_⟩;rintro iM PC ⟨j,he,hj⟩;simp only[Ext.mk.injEq,List.cons.injEq,and_true,true_and]at he;obtain⟨rfl,rfl⟩:=he;have hl4:=j5 w7 4 (s.aF.take j) λx _=>rfl
 rw[List.length_take,Nat.min_eq_left hj]at hl4;refine⟨λcC=>?_,λlS=>?_⟩
 .have eF:j<s.aF.length:=by omega
  have e1:bu Room.aM s.aF (ag (j:Int))=((s.aF[j].aM:Nat):Int):=ej _ _ j eF;have e2:dK Room.out s.aF (ag (j:Int))=bi s.aF[j].out:=gW _ _ j eF;have e3:bu Room.since s.aF (ag (j:Int))=((s.aF[j].since:Nat):Int):=ej _ _ j eF;refine⟨ax4 _,λ_ y4=>?_⟩;refine cg (K1 s.aF[j].id (hs.HL _ (List.getElem_mem eF)) (λq hq=>by
   show aJ (s.aF.flatMap Room.id) (_+q)=_;rw[show ag ((j:Int)*16)=j*16 by omega];exact jX Room.id 16 s.aF hs.HL j q eF hq) (by unfold bw;simp only[axP];omega)) ?_
  intro DR;refine cg (jz (c:=49) rfl [s.aF[j].aM] (by show [ayD .u64 (ae .u64 _)]=_;rw[e1,wU (u8w (hs.agq _ (List.getElem_mem eF)))];rfl) rfl (by unfold bw;simp only[axP,cY,ax5,aya];omega)) ?_;intro Mb;refine cg (Cg [s.aF[j].out] (by rw[e2,jv];rfl) rfl (by unfold bw;simp only[axP,cY,cy,ax5,aya];omega)) ?_;intro Jf;refine cg (jz (c:=56) rfl [s.aF[j].since] (by show [ayD .u64 _]=_;rw[e3];rfl) rfl (by unfold bw;simp only[axP,cY,cy,dV,ax5,aya];omega)) ?_;refine⟨by omega,λ_=>⟨by omega,λ_=>⟨((j+1:Nat):Int),_,rfl,rfl,⟨j+1,?_,by omega⟩,?_⟩⟩⟩
  .rw [du _ _ eF,List.flatMap_append];simp only[ayn,ayx,List.append_nil,ayl,w7]
  .simp only[ah];omega
 have hjr:j=s.aF.length:=by omega
 subst hjr;rw[List.take_length];have ym:G4++s.aF.flatMap w7=fo s:=by
  rw[hG4,hG2,hG1];unfold fo;simp only[ayl,List.nil_append]
 rw[ym];refine⟨λe=> ∃(v:V1) (D:Nat->Int) (H':HP),e=⟨[],[v],[((fo s).length:Int)],[bu eK.c (fo s),bu eK.n (fo s),D],[],[H'],[]⟩/\H'.wr=true/\my (HP.look H') H (fo s) D,λw Fs ho=>?_,?_⟩
 .obtain⟨S,hS⟩:=ho;obtain⟨⟨q,hq⟩,hb⟩:=hS.at_ 0 (bT H b (fo s)) rfl;have C1:aU ([HP.star [ak b true [q.1.1.v],hU true q.1.1.v (fo s) q.1.2.1,q.1.2.2]]++Fs) w:=by
   refine⟨S,⟨λm x hx=>?_,λm m' x y fL hx hy hw=>?_⟩⟩
   .match m,hx with
    | 0,hx=>simp at hx;subst hx;exact⟨hq,hb⟩
    | m+1,hx=>exact hS.at_ (m+1) x (by simpa using hx)
   .match m,m',fL,hx,hy with
    | 0,0,fL,_,_=>exact absurd rfl fL
    | 0,m'+1,_,_,hy=>exact hS.apart 0 (m'+1) (bT H b (fo s)) y (by omega) rfl (by simpa using hy) (.inl rfl)
    | m+1,0,_,hx,_=>exact hS.apart (m+1) 0 x (bT H b (fo s)) (by omega) (by simpa using hx) rfl (.inr rfl)
    | m+1,m'+1,fL,hx,hy=>exact hS.apart (m+1) (m'+1) x y fL (by simpa using hx) (by simpa using hy) hw
  have Xs:=bq.Ra _ w Fs C1;exact⟨q.1.1,((fo s).length:Int),bu eK.c (fo s),bu eK.n (fo s),q.1.2.1,q.1.2.2,Xs,q.1.1,q.1.2.1,q.1.2.2,rfl,q.2.1,q.2.2⟩
 rintro v7 jY iB jk iG FZ ⟨v,D,H',he,g1,g2⟩;simp only[Ext.mk.injEq,List.cons.injEq,and_true,true_and]at he;obtain⟨rfl,rfl,⟨rfl,rfl,rfl⟩,rfl⟩:=he;refine⟨v7,iG,FZ,rfl,?_,g1,g2⟩;refine List.sublist_append_of_sublist_right (l₁:=[_,_,_,_,_,_,_,_,_,_,_,_,_,_,_,_,_,_]) (l₂:=[_,_]) (List.Sublist.refl _)
open Go Go.RX Go.Proofs Go.Vs
theorem ek.aoE{a b:HP}:ek (HP.two a b) b:=λ_ _ hp=>by
 obtain⟨_,S2,h1,h2⟩:=hp;exact⟨S2,h2,h1⟩
theorem aZ.aoF{x a b:HP}:aZ [x,a,b] (HP.look (HP.two a b)):=⟨rfl,λ_ S hS=>⟨λk=>S 1 k\/S 2 k,⟨⟨S 1,(hS.at_ 1 a rfl).1,λ_ h=> .inl h⟩,S 2,(hS.at_ 2 b rfl).1,λ_ h=> .inr h⟩,λ_ hk=>hk.elim (λh=>⟨1,by simp,h⟩) λh=>⟨2,by simp,h⟩⟩⟩
theorem PG(v:V1)(F:List eK)(C:Nat->Int)(H K:HP)(hI:my (HP.look H) K F C)(hF:F.length<=140737488355328)(si:(jy F).length<=140737488355328):
  ao ax8 11 [v.v] [hU true v.v F C,H,K] λr hs=> ∃o:V1,r=o.v/\hs=[hU true v.v F C,H,K]++[aN true o.v (jy F)]:=by
 have h0:ao ax8 11 [v.v] ([]++[hU false v.v F C,HP.look (HP.two H K)]) λr hs=> ∃o:V1,r=o.v/\hs=[aN true o.v (jy F)]:=
  IP v F C (HP.look (HP.two H K)) rfl (λi h=>(hI i h).elim (λg=>⟨rfl,λw S hp=>(ek.trans (ek.one (a:=H) (b:=K)) (show cX H _ from⟨g.1,g.2⟩)).2 w S hp⟩) λg=>⟨rfl,λw S hp=>(ek.trans (ek.aoE (a:=H) (b:=K)) g).2 w S hp⟩) hF si
 refine ao.post (ao.C3 (B:=[hU true v.v F C,H,K]) h0 ?_ ?_) ?_
 .rintro _ hs ⟨o,_,rfl⟩ x hx;rw[ax2.1 hx];rfl
 .intro x hx;simp only[List.mem_cons,List.not_mem_nil,or_false]at hx;rcases hx with rfl | rfl
  .exact aZ.left (B:=[_]) (C:=[H,K]) aZ.own
  .exact aZ.aoF
 .rintro r hs ⟨zF,⟨o,rfl,rfl⟩,rfl⟩;exact⟨_,bq.perm List.perm_append_comm,o,rfl,rfl⟩
theorem UP: ∀l:List eu,MZ l<=3*l.length+KM l
 | []=>Nat.zero_le _
 | x::l=>by
  have h1:=UP l;have h2:=UL x.l;show(3+UK x.l)+MZ l<=3*(l.length+1)+(wS x.l+KM l);omega
set_option maxRecDepth 100000 in
set_option maxHeartbeats 8000000 in
theorem K2(s:Vs.State)(most cP:Int)(u1 u2 u3 u4 u5 u6 u7:V1)(C:Nat->Int)(H:HP)(hH:H.wr=false)(hP:lK H s.table.aD C)(hi:ahV s most cP)(hd: ∀x∈s.call.bE,x<256)
  (hm:cX H (aN false u4.v s.call.marks)) (Bn:cX H (aN false u6.v s.log)):
  ao ax8 3 [.agg (kI s most cP u1.v u2.v u3.v u4.v u5.v u6.v u7.v).toArray] (ef false s C u1.v u2.v u3.v u4.v u5.v u6.v u7.v++[H]) λr _=>r= .bool true:=by
 refine X9 (λr _=>r= .bool true) (s.drawn:Int) (s.table.keys.dev.a:Int) (s.table.keys.dev.d:Int) most (s.call.me.a:Int) (s.call.me.d:Int) (s.call.state:Int) (bi s.call.out) (s.call.aM:Int) (s.call.peer.a:Int) (s.call.peer.d:Int) cP (s.call.eD:Int) (s.call.bP:Int) (s.call.since:Int) (s.call.heard:Int) (s.call.lJ:Int) (s.call.fQ:Int) (s.table.keys.once.length:Int) (s.table.aD.length:Int) (s.call.dead.length:Int) (s.call.marks.length:Int) (s.call.early.length:Int) (s.log.length:Int) (s.aF.length:Int) (aJ s.lW) (aJ s.table.keys.ident) (aJ s.table.keys.signed) (aJ s.call.bE) (aJ s.call.id) (aJ s.call.own) (aJ s.call.cH) (aJ s.call.fi) (bu dj.id s.table.keys.once) (cb dj.cT s.table.keys.once) (bu (λp:eu=>p.dev.a) s.table.aD) (bu (λp:eu=>p.dev.d) s.table.aD) C (cb (λx=>x) s.call.dead) (aJ s.call.marks) (bu js.a s.call.early) (bu js.d s.call.early) (aJ s.log) (cb Room.id s.aF) (bu Room.aM s.aF) (dK Room.out s.aF) (bu Room.since s.aF) u1 u2 u3 u4 u5 u6 u7 H ?_;unfold MN;intro b0;refine⟨_,Iu,?_⟩;rintro x hs ⟨rfl,rfl⟩;refine⟨rfl,rfl,?_⟩;refine⟨_,KO s most cP u1 u2 u3 u4 u5 u6 u7 C H hH hP hi.a,?_⟩;rintro x hs ⟨rfl,rfl⟩;refine⟨_,rfl,rfl,⟨λ_=>rfl,λhc=>?_⟩⟩;have hhv: ¬60000<ae .i64 (ni s:Int):=λh=>hc (decide_eq_true h)
 rw[Mt _ (by omega) (by have:=hi.n;omega)]at hhv;have Zy:=λh=>Al (hi.may h).2.2
 refine⟨_,Ua s most cP u1 u2 u3 u4 u5 u6 u7 C H hH hP hi.a (λh=>⟨(hi.may h).1,(hi.may h).2.1,Zy h⟩) hi.b,?_⟩;rintro x hs ⟨w,rfl,rfl⟩;refine⟨w,nh s most cP,((jB s most cP).length:Int),aJ (jB s most cP),rfl,rfl,?_⟩;refine⟨_,ao.looks (tA s most cP u1 u2 u3 u4 u5 u6 u7 C H hH hP hi.a) (sV hH),?_⟩;rintro x hs ⟨rfl,rfl⟩;refine⟨_,rfl,rfl,⟨λFY=>⟨ax4 _,λ_=>?_⟩,λaoG=>?_⟩⟩
 .have e:nh s most cP=2:=by unfold nh;rw[if_neg FY]
  have e2:jB s most cP=[]:=by unfold jB;rw[e];rfl
  rw[e,e2];rfl
 have kA:lL s most cP=true:=Classical.byContradiction aoG;have hlen:=hi.few (by omega);obtain⟨rfl,rfl,iW⟩:=hi.may kA;have rY:=Zy kA;have nq:nh s (s.table.most:Int) ((s.call.fu:Int) - 1)=0:=by unfold nh;rw[if_pos kA,if_neg (by omega)]
 have air:jB s (s.table.most:Int) ((s.call.fu:Int) - 1)=eP (aX.enc s):=by unfold jB;rw[if_pos nq]
 rw[air,nq];have hfp:=UP s.table.aD;have hpp:=rY.aD;rw[show(256^4:Nat)=4294967296 by decide]at hpp;have hhn:ni s=s.log.length+32*s.aF.length+16*s.call.dead.length+s.call.marks.length+s.call.early.length+40*s.table.keys.once.length+KM s.table.aD:=rfl;have si:100+2*s.table.keys.once.length+MZ s.table.aD+s.call.dead.length+2*s.call.early.length+4*s.aF.length<=3518437208883:=by omega
 have hfl:(fo s).length<=140737488355328:=by
  unfold fo;have h1:=j5 w6 2 s.table.keys.once λx _=>rfl
  have h2:=j5 w7 4 s.aF λx _=>rfl
  have h3:=rz s.table.aD;have h4:=Ec (c:=s.call) rY.bE;simp only[axP,cY,cy,cn,eA,ax5,aya];omega
 refine⟨_,ao.E6 (FB s u1 u2 u3 u4 u5 u6 u7 C H hH hP rY hd hm Bn si) (sV hH),?_⟩;rintro x hs ⟨nw,rfl,v,D,H',rfl,rfl,hH',hI⟩;refine⟨v,((fo s).length:Int),bu eK.c (fo s),bu eK.n (fo s),D,H',rfl,rfl,?_⟩;have he:=PD s hd;refine⟨_,PG v (fo s) D H' H hI hfl (by rw[he];omega),?_⟩;rintro x hs ⟨o,rfl,rfl⟩;rw[he];refine⟨o,((aX.enc s).length:Int),aJ (aX.enc s),rfl,rfl,⟨λ_=>?_,λh=>absurd rfl h⟩⟩;refine⟨_,Pp s u1 u2 u3 u4 u5 u6 u7 C H hH hP rY (by omega),?_⟩;rintro x hs ⟨b,rfl,rfl⟩;refine⟨b,((aX.enc s).length:Int),aJ (aX.enc s),rfl,rfl,⟨λ_=>?_,λh=>absurd rfl h⟩⟩;refine⟨_,Iw o.v o.one (aX.enc s) hi.b.b (by rw[show(256^4:Nat)=4294967296 by decide];omega) [aN true o.v (aX.enc s)] aZ.own,?_⟩;rintro x hs ⟨z,rfl,rfl⟩;refine⟨z,((eP (aX.enc s)).length:Int),aJ (eP (aX.enc s)),rfl,rfl,?_⟩;exact congrArg Value.bool (beq_self_eq_true _)
end Go.RX.Vb

namespace Go.RX
open Go
theorem FC{P:Program}{f:FuncId}{fn:Func}{s:ChangeSpec}{c:OpenClaim}
  (a:(c.wf (OpenSpec.ofChange s)&&laidOutB P&&mapsRowed P)=true)
  (b:(fn.params.all (P.readableRec ·)&&namedTie P c.named s.vars&&(c.stops==[])&&(P.stops==[])&&(c.knobs==[])&&(P.stopKnobs==[]))=true)
  (c1:(c.inPlace==P.inPlace f)=true) (c2:(c.unfollowed==P.unfollowed f)=true) (c3:(c.recurses==P.recurses f)=true) (c4:(c.named==P.varsNamed f)=true)
  (d:((c.maps==(fn.params.toList++s.plain.varTypes P).any (P.mapsRec ·))&&(c.ifaces==(fn.params.toList++s.plain.varTypes P).any (P.ifacesRec ·))&&(c.mapsOut==P.mapsAmong fn.resultTypes.toList)&&(c.loops==(fn.params.toList++s.plain.varTypes P).any (P.loopsFrom ·))&&(c.wideKeys==(fn.params.toList++s.plain.varTypes P++fn.resultTypes.toList).any (P.wideKeysFrom ·))&&s.vars.all (P.varReadable ·)&&fn.resultTypes.all (λt=>P.readableRec t&&decide (t<P.types.size))&&(c.ifacesOut==fn.resultTypes.toList.any (P.ifacesRec ·))&&(c.loopsOut==fn.resultTypes.toList.any (P.loopsFrom ·)))=true)
  (e:((c.plainKeys==P.plainKeys)&&c.shortTexts.isNone&&P.stopsHeard&&P.mayEnter&&(c.lifted==P.liftsFinal)&&(P.make==some c.make)&&(c.kinds==(if c.domain.isEmpty then []else fn.params.toList.map λt=>match P.underlying t with | some (.int k)=>some k | _=>none))&&(c.pinned==c.pinnedBy))=true)
  (g:((c.veiled==(fn.params.toList++s.plain.varTypes P++fn.resultTypes.toList).any (P.veiledRec ·))&&c.veiledFits P fn.params.toList (fn.params.toList++s.plain.varTypes P++fn.resultTypes.toList))=true):joinedFacts P f fn s c=true:=by
 unfold joinedFacts;simp only[ai]at a b d e g ⊢;obtain⟨⟨a1,a2⟩,a3⟩:=a;obtain⟨⟨⟨⟨⟨b1,b2⟩,b3⟩,b4⟩,b5⟩,b6⟩:=b;obtain⟨⟨⟨⟨⟨⟨⟨⟨d1,d2⟩,d3⟩,d4⟩,d5⟩,d6⟩,d7⟩,d8⟩,d9⟩:=d;obtain⟨⟨⟨⟨⟨⟨⟨e1,e2⟩,e3⟩,e4⟩,e5⟩,e6⟩,e7⟩,e8⟩:=e;exact⟨⟨⟨⟨⟨⟨⟨⟨⟨⟨⟨⟨⟨⟨⟨⟨⟨⟨⟨⟨⟨⟨⟨⟨⟨⟨⟨⟨⟨⟨⟨a1,a2⟩,a3⟩,b1⟩,b2⟩,b3⟩,b4⟩,b5⟩,b6⟩,c1⟩,c2⟩,c3⟩,c4⟩,d1⟩,d2⟩,d3⟩,d4⟩,d5⟩,d6⟩,d7⟩,d8⟩,d9⟩,e1⟩,e2⟩,e3⟩,e4⟩,e5⟩,e6⟩,e7⟩,e8⟩,g.1⟩,g.2⟩
end Go.RX

namespace Go.RX.Vb
open Go Go.RX Go.Proofs Go.Vs
theorem K3{w:World}{p:iQ}(h:(ke (w:=w)).ok p):(∀x∈(toState p).call.bE,x<256)/\cX (nZ w.heap.size w) (aN false (Cc p).v (toState p).call.marks)/\cX (nZ w.heap.size w) (aN false (Uh p).v (toState p).log):=by
 obtain⟨_,_,_,⟨_,c3,_,_,_,_,_,_,_,_,_,c13,_,_,_⟩,l1,_,_⟩:=h;exact⟨c3.2,ry (wW c13) rfl,ry (wW l1) rfl⟩
end Go.RX.Vb
namespace Go.Proofs.YtllcdnkfbeokhaaGreat.storePuts
set_option maxRecDepth 100000
theorem j1:(Rows.storePutsUptoRow.inPlace==Tryz.prog.inPlace 3)=true:=by kernel_rfl
theorem j2:(Rows.storePutsUptoRow.unfollowed==Tryz.prog.unfollowed 3)=true:=by kernel_rfl
theorem j3:(Rows.storePutsUptoRow.recurses==Tryz.prog.recurses 3)=true:=by kernel_rfl
theorem j4:(Rows.storePutsUptoRow.named==Tryz.prog.varsNamed 3)=true:=by kernel_rfl
theorem closed:joinedFacts ax8 3 Tryz.f3 (Rows.OpenSpec.upto Rows.storePutsSpec).bare Rows.storePutsUptoRow=true:=
 RX.FC (by kernel_rfl) (by kernel_rfl) j1 j2 j3 j4 (by kernel_rfl) (by kernel_rfl) (by kernel_rfl)
end Go.Proofs.YtllcdnkfbeokhaaGreat.storePuts
