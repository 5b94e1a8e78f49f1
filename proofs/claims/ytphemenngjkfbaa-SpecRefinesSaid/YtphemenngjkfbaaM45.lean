/- SpecRefines. -/
import Derived.Test.YtphemenngjkfbaaM44
open Go.Proofs.Try renaming prog → agQ
open List renaming append → agw, append_assoc → ahf, getD_cons_succ → agY, getD_cons_zero → ah
open List.cons renaming injEq → agO
namespace Go.RX.Ee
open Go.RX Go.Proofs Go.Cp Go.RX.Cs Go.RX.Ct Go.RX.Cu Go.RX.Cy Go.RX.Eb Go.RX.Ec Go.RX.Dc Go.RX.Df Go.RX.Dg Go.RX.Dj Go.RX.Dm Go.RX.Dp
open Go.RX.So (DE CE qE oQ xj dE iO wv)
theorem Nh(σ:So.Sys)(wf:σ.Wf)(hc:σ.cs=[])(hl:σ.s.last=0)(h0:σ.s.dv 0=2∧σ.s.dv 1=2)(hd: ∀x∈σ.ds,x.d=wv)(he: ∀i,i<4→∃x∈σ.ds,x.k=S6 i):Rel σ Ss.start:=by
 refine⟨wf,hl,h0,fun i hi=>?_,fun c _ y hy=>by rw [hc]at hy;exact absurd hy (List.not_mem_nil),fun c C h=>nomatch h⟩;obtain⟨x,hx,hk⟩:=he i hi;refine⟨x,hx,hk,?_⟩;rw [hd x hx];exact⟨rfl,fun q=>absurd rfl q,fun q=>absurd rfl q,fun q=>absurd rfl q,fun q=>absurd rfl q,fun q=>absurd rfl q,fun q=>absurd q (by simp [Ss.start]),fun c=>by simp [wv,Ss.start],rfl,fun j q hq=>by simp [Ss.start]at hq⟩
def dv8(j:Nat):Int:=if j<2 then 2 else 0
theorem gH:au agQ 35 [.agg (.int .u8 2::(.int .u8 2::(agw (ak .u8 6 (fun _=>0)) ([])))).toArray] [] fun r hs=> ∃σ:So.Sys,r= .pointer (some ⟨σ.b,0,none⟩)∧hs=[HP.star σ.eN]∧Rel σ Ss.start:=by
 have h:=Ed.gH dv8 (fun j=>by unfold dv8;split<;>decide);refine au.post h ?_;rintro r hs ⟨σ,rfl,rfl,wf,hc,hl,hv,hd,he⟩;refine⟨_,aB.refl _,σ,rfl,rfl,Nh σ wf hc hl (by rw [hv];exact⟨rfl,rfl⟩) hd fun i hi=>?_⟩;refine he _ _ (by omega) (by omega) (by omega) ?_;unfold dv8;rw [if_pos (by omega)];omega
theorem JR{σ:So.Sys}{p p':Ss LI}{x:Fe LI}{e:So.Ev}(h:Rel σ p)(hs:Sp zK p x p')(hE:He e x){n:Nat}(hn:Small p n)(hb:n≤1000000000):
  au agQ 36 [.pointer (some ⟨σ.b,0,none⟩),e.val] [HP.star σ.eN] fun r hs=>r= .int .i64 0∧∃nj:So.Sys,nj.b=σ.b∧Rel nj p'∧hs=[HP.star nj.eN]:=by
 have mY:=S7 h hs hE;have hi:x.i<4:=by cases hs with
  | sQ hb=>exact hb.i
  | ring c hb=>exact hb.i
  | takes c hb=>exact hb.i
  | iI c hb=>exact hb.i
  | acts c hb=>exact hb.i
  | ends c hb=>exact hb.i
 refine au.post (au.pre (So.Po σ h.wf e (fun z hz hk=>?_) (fun z hz hk=>?_) ?_ ?_) (aB.eQ _)) ?_
 ·obtain⟨X,hX,qI,oI⟩:=h.dev x.i hi;have:z=X:=h.one hX hz (hk.trans (hE.kd.trans qI.symm));subst this;have:=hn.d x.i;rw [oI.n];omega
 ·cases hc:p.c x.e.c with
  | none=>exact absurd (hk.trans hE.ki) (h.Ur _ hc z hz)
  | some C=>
   obtain⟨Y,hY,PY,jt⟩:=h.DT _ C hc;have:z=Y:=h.V0 hY hz (hk.trans (hE.ki.trans PY.symm));subst this;have:=hn.c _ C hc;rw [jt.n];omega
 ·rw [hE.acc];unfold gQ;omega
 ·rw [hE.acc];unfold gQ;omega
 ·rintro r hs (⟨rfl,rfl,hr⟩ | ⟨rfl,nj,lG,rfl⟩)
  ·exact absurd hr mY.2
  ·exact⟨_,aB.star (xj nj),rfl,nj,(mY.1 nj lG).1,(mY.1 nj lG).2,rfl⟩
def rest(σ:So.Sys):List HP:=σ.ds.flatMap DE.eN++σ.cs.flatMap CE.eN
theorem E8(σ:So.Sys): ∀h∈rest σ,h.wr=true:=fun h hh=>xj σ h (by simp only [So.Sys.eN,List.mem_append];exact .inr (by simpa [rest] using hh))
theorem Qs(σ:So.Sys):aB [HP.star σ.eN] ([HP.star (rest σ)]++dE σ.b σ.mc σ.ma σ.s):=by
 refine aB.trans (aB.eQ _) ?_;have:σ.eN=dE σ.b σ.mc σ.ma σ.s++rest σ:=rfl;rw [this];exact aB.trans (aB.perm List.perm_append_comm) (aB.frame (aB.star (E8 σ)) _)
def side(σ:So.Sys)(l1 l2:List DE):List HP:=l1.flatMap DE.eN++l2.flatMap DE.eN++σ.cs.flatMap CE.eN
theorem Qt(σ:So.Sys){x:DE}{l1 l2:List DE}(h:σ.ds=l1++x::l2)(R:List HP):aB ([HP.star (rest σ)]++R) ([HP.star (side σ l1 l2)]++(R++x.eN)):=by
 have e:(rest σ).Perm (side σ l1 l2++x.eN):=by
  unfold rest side;rw [h];simp only [List.flatMap_append,List.flatMap_cons,ahf];refine(List.perm_append_comm_assoc _ _ _).trans (List.perm_append_comm.trans ?_);simp only [ahf];exact List.Perm.refl _
 refine aB.trans (aB.frame (aB.trans (aB.eQ _) (aB.perm e)) R) ?_;rw [ahf];refine aB.trans (aB.frame (aB.star fun h' hh=>?_) _) ?_
 ·exact E8 σ h' (e.mem_iff.2 (List.mem_append_left _ hh))
 ·exact aB.perm (List.Perm.append_left _ List.perm_append_comm)
theorem Qu(σ:So.Sys){x:DE}{l1 l2:List DE}(h:σ.ds=l1++x::l2)(R:List HP):aB ([HP.star (side σ l1 l2)]++(x.eN++R)) ([HP.star (rest σ)]++R):=by
 have e:(side σ l1 l2++x.eN).Perm (rest σ):=by
  unfold rest side;rw [h];simp only [List.flatMap_append,List.flatMap_cons,ahf];refine List.Perm.symm ((List.perm_append_comm_assoc _ _ _).trans (List.perm_append_comm.trans ?_));simp only [ahf];exact List.Perm.refl _
 refine aB.trans (aB.frame (aB.eQ _) _) ?_;rw [←ahf];exact aB.frame (aB.trans (aB.perm e) (aB.star (E8 σ))) R
abbrev rN(b8:Nat)(ra:Nat→Int)(rc:Nat→List (Rc×Nat))(T:Nat):List HP:=[oJ b8 ra,dF (oR (ra 0)) 0 (rc 0) T,dF (oR (ra 1)) 1 (rc 1) T,dF (oR (ra 2)) 2 (rc 2) T,dF (oR (ra 3)) 3 (rc 3) T]
def qj(i:Nat)(ra:Nat→Int)(rc:Nat→List (Rc×Nat))(T:Nat):List HP:=
 let q:Nat→HP:=fun k=>dF (oR (ra k)) k (rc k) T
 s4 i [q 1,q 2,q 3] [q 0,q 2,q 3] [q 0,q 1,q 3] [q 0,q 1,q 2]
theorem K_{b8:Nat}{ra:Nat→Int}{rc:Nat→List (Rc×Nat)}{T:Nat}: ∀h∈rN b8 ra rc T,h.wr=true:=by
 intro h hh;simp only [rN,List.mem_cons,List.not_mem_nil,or_false]at hh;rcases hh with rfl | rfl | rfl | rfl | rfl<;>rfl
theorem Tn{i:Nat}(hi:i<4){ra:Nat→Int}{rc:Nat→List (Rc×Nat)}{T:Nat}: ∀h∈qj i ra rc T,h.wr=true:=by
 intro h hh
 match i,hi with
 | 0,_=>simp only [qj,s4,List.mem_cons,List.not_mem_nil,or_false]at hh;rcases hh with rfl | rfl | rfl<;>rfl
 | 1,_=>simp only [qj,s4,List.mem_cons,List.not_mem_nil,or_false]at hh;rcases hh with rfl | rfl | rfl<;>rfl
 | 2,_=>simp only [qj,s4,List.mem_cons,List.not_mem_nil,or_false]at hh;rcases hh with rfl | rfl | rfl<;>rfl
 | 3,_=>simp only [qj,s4,List.mem_cons,List.not_mem_nil,or_false]at hh;rcases hh with rfl | rfl | rfl<;>rfl
theorem Qv{i:Nat}(hi:i<4){b8:Nat}{ra:Nat→Int}{rc:Nat→List (Rc×Nat)}{T:Nat}:aB (rN b8 ra rc T) ([oJ b8 ra,dF (oR (ra i)) i (rc i) T]++qj i ra rc T):=by
 match i,hi with
 | 0,_=>exact gW (b:=[_,_,_,_,_]) [0,1,2,3,4] (by decide) rfl
 | 1,_=>exact gW (b:=[_,_,_,_,_]) [0,2,1,3,4] (by decide) rfl
 | 2,_=>exact gW (b:=[_,_,_,_,_]) [0,3,1,2,4] (by decide) rfl
 | 3,_=>exact gW (b:=[_,_,_,_,_]) [0,4,1,2,3] (by decide) rfl
theorem Qw{i:Nat}(hi:i<4){b8:Nat}{ra:Nat→Int}{rc:Nat→List (Rc×Nat)}{T:Nat}:aB (qj i ra rc T++[oJ b8 ra,dF (oR (ra i)) i (rc i) T]) (rN b8 ra rc T):=by
 match i,hi with
 | 0,_=>exact gW (a:=[_,_,_,_,_]) [3,4,0,1,2] (by decide) rfl
 | 1,_=>exact gW (a:=[_,_,_,_,_]) [3,0,4,1,2] (by decide) rfl
 | 2,_=>exact gW (a:=[_,_,_,_,_]) [3,0,1,4,2] (by decide) rfl
 | 3,_=>exact gW (a:=[_,_,_,_,_]) [3,0,1,2,4] (by decide) rfl
theorem vW{i:Nat}(hi:i<4){b8:Nat}{ra:Nat→Int}{rc:Nat→List (Rc×Nat)}{T:Nat}{w:World}{Fs:List HP}(h:aU ([HP.star (rN b8 ra rc T)]++Fs) w):
  ∃(Hs:Nat→Int) (A:cI),mz i A (rc i)∧(rc i).length≤T∧aU ([HP.star (qj i ra rc T),bK b8 [.u8,.u8] true false ([.slice none 0 0]) (fun i=> !(Hs i==0)) (cc [dC 1 (fun j=>if j=s4 i 18 84 162 660 then(oR (ra i)).v else iR (mn ra j))]),aC true 85 22 (oR (ra i)).v (rc i).length (aT (rc i).length (yZ A))]++Fs) w:=by
 have h1:aU (oJ b8 ra::dF (oR (ra i)) i (rc i) T::(qj i ra rc T++Fs)) w:=aB.trans (aB.eQ (rN b8 ra rc T)) (Qv hi) w Fs h;obtain⟨Hs,h2⟩:=aU.uy h1;have h3:aU (dF (oR (ra i)) i (rc i) T::(bK b8 [.u8,.u8] true false ([.slice none 0 0]) (fun i=> !(Hs i==0)) (cc [dC 1 (fun j=>iR (mn ra j))])::(qj i ra rc T++Fs))) w:=aB.perm (List.Perm.swap _ _ []) w _ h2;obtain⟨A,h4⟩:=aU.uy h3;refine⟨Hs,A.1,A.2.1,A.2.2,?_⟩;have e0:=vS hi ra (ra i);rw [h_]at e0;rw [e0]at h4;have h5:aU ((qj i ra rc T++[bK b8 [.u8,.u8] true false ([.slice none 0 0]) (fun i=> !(Hs i==0)) (cc [dC 1 (fun j=>if j=s4 i 18 84 162 660 then(oR (ra i)).v else iR (mn ra j))]),aC true 85 22 (oR (ra i)).v (rc i).length (aT (rc i).length (yZ A.1))])++Fs) w:=by
  refine aB.perm (a:=[_,_]++qj i ra rc T) ?_ w Fs h4;exact(List.perm_append_comm).trans (List.Perm.append_left _ (List.Perm.swap _ _ []))
 exact aB.frame (aB.star (Tn hi)) _ w Fs h5
theorem Qx{i:Nat}(hi:i<4){b8:Nat}{ra:Nat→Int}{rc:Nat→List (Rc×Nat)}{T:Nat}{Hs:Nat→Int}{A:cI}(hA:mz i A (rc i))(hT:(rc i).length≤T):
  aB [HP.star (qj i ra rc T),bK b8 [.u8,.u8] true false ([.slice none 0 0]) (fun i=> !(Hs i==0)) (cc [dC 1 (fun j=>if j=s4 i 18 84 162 660 then(oR (ra i)).v else iR (mn ra j))]),aC true 85 22 (oR (ra i)).v (rc i).length (aT (rc i).length (yZ A))] [HP.star (rN b8 ra rc T)]:=by
 have e0:=vS hi ra (ra i);rw [h_]at e0;rw [←e0];have e1:aB [bK b8 [.u8,.u8] true false ([.slice none 0 0]) (fun i=> !(Hs i==0)) (cc [dC 1 (fun j=>iR (mn ra j))])] [oJ b8 ra]:=aB.ex (F:=fun Hs:Nat→Int=>bK b8 [.u8,.u8] true false ([.slice none 0 0]) (fun i=> !(Hs i==0)) (cc [dC 1 (fun j=>iR (mn ra j))])) Hs rfl;have e2:aB [aC true 85 22 (oR (ra i)).v (rc i).length (aT (rc i).length (yZ A))] [dF (oR (ra i)) i (rc i) T]:=aB.ex (F:=fun A:{A:cI // mz i A (rc i)∧(rc i).length≤T}=>aC true 85 22 (oR (ra i)).v (rc i).length (aT (rc i).length (yZ A.1))) ⟨A,hA,hT⟩ rfl;exact aB.trans (aB.both (a:=[HP.star (qj i ra rc T)]) (c:=[_,_]) (aB.eQ (qj i ra rc T)) (aB.cons e1 e2)) (aB.trans (Qw hi) (aB.star K_))
theorem Hq{z:FB}{f:Nat}{args:List Value}{pre:List HP}(h:au agQ f args pre fun rv hs=>rv= .bool true∧∃(s':Sy LI) (fI fE:V1) (T':Nat),E7 s' T'∧hs=four z fI fE s' T'):
  au agQ f args pre fun rv hs=>rv= .bool true∧∃(s':Sy LI) (fI fE:V1) (T':Nat) (A:cI) (ra:Nat→Int),E7 s' T'∧CF A s'.eG∧s'.eG.length≤T'∧hs=[Dm.fZ z fI fE s',aC true 76 56 fE.v s'.eG.length (aT s'.eG.length (ER A)),HP.star (rN z.b8 ra s'.lY T')]:=by
 intro w Fs own;refine(h w Fs own).mono ?_;rintro en w' ⟨v,hs,he,⟨hv,s',vf,ve,T',hr,rfl⟩,ho,ey⟩;have h1:aU (gC z ve s' T'::Dm.fZ z vf ve s'::Fs) w':=(aB.trans (b:=[gC z ve s' T',Dm.fZ z vf ve s']) (gW (a:=four z vf ve s' T') [2,0] (by decide) rfl) (aB.refl _)) w' Fs ho;obtain⟨x,h2⟩:=aU.uy h1;have h3:=aB.eQ (qu ve z.b5 z.b6 z.b7 z.b8 s'.bb s'.pr s'.done s'.eG s'.lY T' x.1 x.2) w' _ h2;have h4:aU (rH ve s'.eG T'::([Dm.fZ z vf ve s']++rN z.b8 x.2 s'.lY T'++Fs)) w':=by
  have e:aB (qu ve z.b5 z.b6 z.b7 z.b8 s'.bb s'.pr s'.done s'.eG s'.lY T' x.1 x.2++[Dm.fZ z vf ve s']) ([rH ve s'.eG T',Dm.fZ z vf ve s']++rN z.b8 x.2 s'.lY T'):=gW [0,13,4,6,8,10,12] (by decide) rfl;have:=e w' Fs (by rw [ahf];exact h3);simpa using this
 obtain⟨A,h5⟩:=aU.uy h4;refine⟨v,_,he,⟨hv,s',vf,ve,T',A.1,x.2,hr,A.2.1,A.2.2,rfl⟩,?_,ey⟩;have h6:aU ((rN z.b8 x.2 s'.lY T'++[Dm.fZ z vf ve s',aC true 76 56 ve.v s'.eG.length (aT s'.eG.length (ER A.1))])++Fs) w':=by
  refine aB.trans (a:=[aC true 76 56 ve.v s'.eG.length (aT s'.eG.length (ER A.1)),Dm.fZ z vf ve s']++rN z.b8 x.2 s'.lY T') (gW [2,3,4,5,6,1,0] (by decide) rfl) (aB.refl _) w' Fs ?_;simpa using h5
 exact aB.trans (aB.frame (aB.star K_) [_,_]) (gW [1,2,0] (by decide) rfl) w' Fs h6
end Go.RX.Ee

namespace Go.RX.Ef
open Go.RX Go.Proofs Go.Cp Go.RX.Cs Go.RX.Ct Go.RX.Cu Go.RX.Cy Go.RX.Da Go.RX.Eb Go.RX.Ec Go.RX.Ee Go.RX.Dc Go.RX.Df Go.RX.Dg Go.RX.Di Go.RX.Dj Go.RX.Dm Go.RX.Do Go.RX.Dp Go.RX.Ea
open Go.RX.So (DE CE qE oQ)
set_option maxRecDepth 100000
noncomputable def YR:Ctx:={T:=TT,FT:=FT}
theorem xn:(eE YR 34 [] [] {} Try.f34).jo=true:=by kernel_rfl
theorem yx:au agQ 34 [] [] (fun v hs=>v= .bool true∧hs=[]):=au.jo (C:=YR) sU iS sV Try.func34 xn
abbrev AW(σ:So.Sys):HP:=bK σ.ma [.u8,.u8] true false ([.pointer none]) (fun i=> !(σ.s.vH i==0)) (cc [pJ 1 σ.s.vI])
abbrev Tp(σ:So.Sys)(K:Nat)(b:Nat):HP:=bK σ.ma [.u8,.u8] true false ([.pointer none]) (fun i=> !((aj σ.s.vH K 1) i==0)) (cc [pJ 1 (aj σ.s.vI K ((b:Nat)+1:Int))])
theorem Qy{σ:So.Sys}(wf:σ.Wf){x:DE}(hx:x∈σ.ds){K:Nat}(hK:x.k=K):Tp σ K x.b=AW σ:=by
 obtain⟨h1,h2⟩:=wf.d1 x hx;rw [hK]at h1 h2;rw [Tp,So.mS h1,So.mS h2]
theorem Qz{σ:So.Sys}{x:DE}{l1 l2:List DE}(hl:σ.ds=l1++x::l2):x∈σ.ds:=by rw [hl];simp
theorem vX{σ:So.Sys}(wf:σ.Wf){x:DE}{l1 l2:List DE}(hl:σ.ds=l1++x::l2){K:Nat}(hK:x.k=K){w:World}{Fs:List HP}(h:aU ([HP.star (rest σ),AW σ]++Fs) w):aU (([HP.star (side σ l1 l2),Tp σ K x.b]++x.eN)++Fs) w:=by
 rw [Qy wf (Qz hl) hK];exact Qt σ hl [AW σ] w Fs h
abbrev Wz(b8 i:Nat)(ra:Nat→Int)(Hs:Nat→Int):HP:=bK b8 [.u8,.u8] true false ([.slice none 0 0]) (fun i=> !(Hs i==0)) (cc [dC 1 (fun j=>if j=s4 i 18 84 162 660 then(oR (ra i)).v else iR (mn ra j))])
abbrev WA(i:Nat)(ra:Nat→Int)(rc:List (Rc×Nat))(A:cI):HP:=aC true 85 22 (oR (ra i)).v rc.length (aT rc.length (yZ A))
theorem vY{σ:So.Sys}(wf:σ.Wf){x:DE}{l1 l2:List DE}(hl:σ.ds=l1++x::l2){K:Nat}(hK:x.k=K){i:Nat}(hi:i<4){b8:Nat}{ra:Nat→Int}{rc:Nat→List (Rc×Nat)}{T:Nat}{Hs:Nat→Int}{A:cI}(hA:mz i A (rc i))(hT:(rc i).length≤T){w:World}{Fs:List HP}
  (h:aU (([HP.star (qj i ra rc T),HP.star (side σ l1 l2),Tp σ K x.b]++x.eN++[Wz b8 i ra Hs,WA i ra (rc i) A])++Fs) w):aU ([HP.star (rN b8 ra rc T),HP.star (rest σ),AW σ]++Fs) w:=by
 rw [Qy wf (Qz hl) hK]at h;refine aB.trans (b:=[HP.star (qj i ra rc T),Wz b8 i ra Hs,WA i ra (rc i) A]++([HP.star (side σ l1 l2)]++(x.eN++[AW σ]))) (gW (a:=[HP.star (qj i ra rc T),HP.star (side σ l1 l2),AW σ]++x.eN++[Wz b8 i ra Hs,WA i ra (rc i) A]) [0,6,7,1,3,4,5,2] (by decide) rfl) ?_ w Fs h;exact aB.both (Qx hi hA hT) (Qu σ hl [AW σ])
theorem vZ{i:Nat}{d:So.Dv}{A:cI}{rc:List (Rc×Nat)}(hA:mz i A rc)(hd: ∀j q,rc[j]? =some q→Uq i d j q){n:Nat}(hn:n<rc.length):
  (∀j,j<16→aJ d.r0 (n*16) j=aJ (A 0) (n*16) j)∧d.r1 n=A 1 n∧((d.r2 n≠0→A 2 n≠0)∧(¬d.r2 n≠0→¬A 2 n≠0))∧d.r3 n=A 3 n∧d.r4 n=A 4 n∧d.r5 n=A 5 n∧d.r6 n=A 6 n:=by
 have hq:rc[n]? =some (Jq A n):=by rw [hA.e];simp [hn]
 obtain⟨a1,a2,a3,a4,a5,a6,a7⟩:=hd n _ hq;obtain⟨b1,b2,b3,b4,b5⟩:=hA.f n hn;have a1:bG (aN d.r0 (n*16) 16)=bG (aN (A 0) (n*16) 16):=a1;have a3:d.r2 n≠0↔(!(A 2 n==0))=true:=a3;have a4:d.r3 n=((A 3 n).toNat:Int):=a4;have a5:d.r4 n=((A 4 n).toNat:Int):=a5;have a6:d.r5 n=((A 5 n).toNat:Int):=a6;have a7:d.r6 n=((A 6 n).toNat:Int):=a7;have a3:d.r2 n≠0↔A 2 n≠0:=by rw [a3];simp
 exact⟨G_.1 (jw (by simp [aN]) a1),a2.trans b1.symm,⟨a3.1,fun q r=>q (a3.2 r)⟩,by omega,by omega,by omega,by omega⟩
theorem Tq{A:cI}{l:List (Fe LI)}(hA:CF A l){n:Nat}(hn:n<l.length):l[n]? =some (Ha A n)∧He ⟨A 0 n,A 1 n,A 2 n,A 3 n,aJ (A 4) (n*16),A 5 n,A 6 n,A 7 n,aJ (A 8) (n*32),A 9 n⟩ (Ha A n):=by
 obtain⟨k,da,dd,w,ac,pa,pd,oc⟩:=hA.f n hn;refine⟨by rw [hA.e];simp [hn],?_,?_,?_,?_,?_,?_,pa,pd,rfl,ib _ _ _,?_⟩
 ·show A 0 n=((A 0 n).toNat:Int);omega
 ·show A 1 n=(((2*A 1 n+A 2 n).toNat/2:Nat):Int);omega
 ·show A 2 n=(((2*A 1 n+A 2 n).toNat%2:Nat):Int);omega
 ·show A 3 n=((A 3 n).toNat:Int);omega
 ·show bG (aN (aJ (A 4) (n*16)) 0 16)=_;rw [ib];rfl
 ·show A 5 n=gQ (2*A 1 n+A 2 n).toNat;unfold gQ;omega
 ·show A 9 n=((A 9 n).toNat:Int);omega
variable {F:Nat→LI→LI→Nat→Nat→LI} {H:LI→LI}
theorem Ux{z:FB}{vf ve:V1}{s:Sy LI}{T f:Nat}{args:List Value}{post:Value→List HP→Prop}(h: ∀A:cI,fX A s.bW→au agQ f args (Hl z vf ve s T A) post):au agQ f args (four z vf ve s T) post:=
 au.CG [Dm.fZ z vf ve s] (pL z ve s T) fun A=>h A.1 A.2
def Y7(F:Nat→LI→LI→Nat→Nat→LI)(H:LI→LI)(z:FB)(q:Nat)(k:Ext):Prop:= ∃(s:Sy LI) (vf ve:V1) (T:Nat),k.v=[vf,ve]∧k.i=[(s.now:Int),(s.dl:Int),(q:Int)]∧k.p=df vf s.bW::pL z ve s T∧Nf F H (20*q) (1+100*q) q s∧T≤16*q
abbrev Tr(i:Nat)(ra:Nat→Int)(rc:Nat→List (Rc×Nat))(T:Nat)(k:Ext):Prop:= ∃(Hs:Nat→Int) (A:cI),mz i A (rc i)∧(rc i).length≤T∧k.v=[oR (ra i)]∧k.i=[((rc i).length:Int)]∧k.a=[Hs,mn ra,A 0,A 1,A 2,A 3,A 4,A 5,A 6]∧k.p=[HP.star (qj i ra rc T)]
abbrev Ts(σ:So.Sys)(X:DE)(l1 l2:List DE)(k:Ext):Prop:=k.b=[X.b,X.h]∧k.v=[X.v]∧k.i=[X.d.st,X.d.out,X.d.acc,X.d.pa,X.d.pd,X.d.aP,X.d.fo,X.d.n]∧k.a=[X.d.id,X.d.had,X.d.r0,X.d.r1,X.d.r2,X.d.r3,X.d.r4,X.d.r5,X.d.r6]∧k.p=[HP.star (side σ l1 l2)]
set_option maxHeartbeats 4000000 in
theorem Ni(hS:xq F H)(v0:V1)(n:Nat)(A0 A1 A2 A3:Nat→Int)(h0: ∀j,j<n→0≤A0 j)(h1: ∀j,j<n→0≤A1 j)(h2: ∀j,j<n→0≤A2 j∧A2 j<65536)(h3: ∀j,j<n→0≤A3 j∧A3 j<256):
  au agQ 12 [v0.v] [aC false 123 4 v0.v n (aT n [ax .u8 1 A0,ax .u8 1 A1,ax .u16 1 A2,ax .u8 1 A3])] fun v _=>v= .bool true:=by
 refine VG (fun v _=>v= .bool true) (n:Int) A0 A1 A2 A3 v0 ?_;unfold OS;intro b0;refine⟨_,yx,?_⟩;rintro v hs ⟨rfl,rfl⟩;refine⟨rfl,rfl,by omega,fun _=>⟨fun _=>rfl,fun hn=>?_⟩⟩;refine⟨_,Dr.Hp,?_⟩;rintro v hs ⟨z,vf,ve,rfl,rfl⟩;refine⟨z.b0,z.bm 0,z.bm 1,z.bm 2,z.bm 3,z.b5,z.b6,z.b7,z.b8,vf,ve,_,_,_,_,_,_,_,_,rfl,rfl,?_⟩;refine⟨fun k=> ∃q:Nat,q≤n∧Y7 F H z q k,fun k=>(n - k.i.getD 2 0).toNat,⟨_,_,_,_,_,_,_,_,_,_,_,rfl,rfl,rfl,rfl,rfl,rfl,rfl,rfl,rfl,rfl,rfl,0,by omega,Dr.start,_,_,0,rfl,rfl,rfl,Dr.JQ,by omega⟩,?_⟩;clear vf ve;rintro v3 v4 x3 x4 x5 p6 p7 p8 p9 nC qB ⟨q,hq,s,vf,ve,T,hv,hi,hp,hH,hT⟩;simp only [agO,and_true]at hv hi hp;obtain⟨rfl,rfl⟩:=hv;obtain⟨rfl,rfl,rfl⟩:=hi;obtain⟨rfl,rfl,rfl,rfl,rfl,rfl⟩:=hp;refine⟨fun cZ=>⟨by omega,fun _=>fun _=>?_⟩,fun uJ=>?_⟩
 ·have Tt:q<n:=by omega
  simp only [Int.toNat_natCast];obtain⟨k4,e4⟩:=Int.eq_ofNat_of_zero_le (h0 q Tt);obtain⟨k5,e5⟩:=Int.eq_ofNat_of_zero_le (h1 q Tt);obtain⟨k6,e6⟩:=Int.eq_ofNat_of_zero_le (h2 q Tt).1;obtain⟨k7,e7⟩:=Int.eq_ofNat_of_zero_le (h3 q Tt).1;have b6:=(h2 q Tt).2;have b7:=(h3 q Tt).2;rw [e4,e5,e6,e7];rw [e6]at b6;rw [e7]at b7;refine⟨_,Ux fun A hA=>JO (z:=z) (vf:=v3) (ve:=v4) hS hH (by omega) (by omega) (by omega) (by omega) hA k4 k5 k6 k7 (by omega) (by omega),?_⟩;rintro v hs ⟨rfl,s',fI,fE,Z6,rfl⟩;refine⟨fI,fE,_,_,_,_,_,_,_,_,rfl,rfl,by omega,fun _=>⟨by omega,fun _=>⟨_,_,_,_,_,_,_,_,_,_,_,rfl,rfl,rfl,rfl,rfl,rfl,rfl,rfl,rfl,rfl,rfl,⟨q+1,by omega,s',fI,fE,T+16,rfl,rfl,rfl,⟨Z6.g,Z6.k,(by have:=Z6.n;omega),Z6.d⟩,by omega⟩,?_⟩⟩⟩;simp only [ah,agY];omega
 refine⟨_,Hq (Ux fun A hA=>JP (z:=z) (vf:=v3) (ve:=v4) hS hH (by omega) (by omega) (by omega) hA),?_⟩;clear hH hT;rintro v hs ⟨rfl,s,vf,ve,T,B,ra,⟨⟨p,Y8⟩,hT⟩,hB,hlen,rfl⟩;obtain⟨f,f0,fl,fs⟩:=Y8.run.at_;have yj:=Pg f0 fs;have hD: ∀i,i<4→(p.d i).log=s.lY i:=fun i hi=>(Y8.d i hi).log
 refine⟨vf,ve,_,_,(s.eG.length:Int),B 0,B 1,B 2,B 3,B 4,B 5,B 6,B 7,B 8,B 9,_,rfl,rfl,fun jI=>?_⟩;refine⟨_,Ee.gH,?_⟩;rintro v hs ⟨σ0,rfl,rfl,hR0⟩;refine⟨σ0.b,_,rfl,rfl,by omega,fun _=>?_⟩;refine⟨fun k=> ∃(q:Nat) (σ:So.Sys),q≤s.eG.length∧σ.b=σ0.b∧Rel σ (f q)∧k.i=[(q:Int)]∧k.p=[HP.star σ.eN],fun k=>(s.eG.length - k.i.getD 0 0).toNat,⟨_,_,rfl,rfl,0,σ0,by omega,rfl,by rw [f0];exact hR0,rfl,rfl⟩,?_⟩;rintro x9 qH ⟨q,σ,hq,hb,hR,hi,hp⟩;simp only [agO,and_true]at hi hp;subst hi hp;refine⟨fun cZ=>⟨by omega,fun _=>fun mr=>?_⟩,fun uJ=>?_⟩
 ·have Tt:q<s.eG.length:=by omega
  obtain⟨e1,e2⟩:=Tq hB Tt;have lG:=JR hR (fs q _ e1) e2 (yj q (by omega)) (by omega);rw [hb]at lG;simp only [Qb,Wp,Int.toNat_natCast];refine⟨_,lG,?_⟩;rintro v hs ⟨rfl,nj,Ob,hR',rfl⟩;refine⟨0,_,rfl,rfl,fun bad=>absurd rfl bad,fun _=>⟨by omega,fun _=>⟨by omega,fun _=>⟨_,_,rfl,rfl,⟨q+1,nj,by omega,Ob,hR',rfl,rfl⟩,?_⟩⟩⟩⟩;simp only [ah];omega
 have hqe:q=s.eG.length:=by omega
 subst hqe;rw [fl]at hR;clear hR0 yj fs f0 fl uJ hB;refine⟨fun k=>k.b=[σ.mc,σ.ma]∧k.i=[σ.s.last]∧k.a=[σ.s.dv,σ.s.xe,σ.s.xg,σ.s.vH,σ.s.vI]∧k.p=[HP.star (rest σ)],fun w Fs o=>⟨σ.mc,σ.ma,σ.s.last,σ.s.dv,σ.s.xe,σ.s.xg,σ.s.vH,σ.s.vI,HP.star (rest σ),?_,rfl,rfl,rfl,rfl⟩,?_⟩
 ·have:=Qs σ w Fs o;rw [So.dE,hb]at this;exact this
 rintro mr qC aO eS eD dX dY dQ ru ⟨WW,hi,ha,hp⟩;simp only [agO,and_true]at WW hi ha hp;obtain⟨rfl,rfl⟩:=WW;obtain⟨rfl,rfl,rfl,rfl,rfl⟩:=ha;subst hi hp;refine fun _=>?_
 obtain⟨X,hX,qI,oI⟩:=hR.dev 0 (by decide);have qI:X.k=18:=qI;obtain⟨l1,l2,hl⟩:=List.append_of_mem hX;have ui:=hD 0 (by decide);have La:=oI.log;have RB:=oI.n;rw [ui]at La RB;refine⟨Tr 0 ra s.lY T,fun w Fs o=>?_,?_⟩
 ·obtain⟨Hs,A,q1,q2,q3⟩:=vW (i:=0) (by decide) o;exact⟨_,((s.lY 0).length:Int),Hs,_,A 0,A 1,A 2,A 3,A 4,A 5,A 6,_,q3,Hs,A,q1,q2,rfl,rfl,rfl,rfl⟩
 rintro v7 aQ mA mB mo nE nB kq ku kv kx zl ⟨Hs,A,q1,q2,e1,e2,e3,e4⟩;simp only [agO,and_true]at e1 e2 e3 e4;obtain⟨rfl,rfl,rfl,rfl,rfl,rfl,rfl,rfl,rfl⟩:=e3;subst e1 e2 e4;refine⟨fun _=>True,⟨fun _ _=>⟨_,rfl,rfl,trivial⟩,fun _ _=>⟨_,rfl,rfl,trivial⟩⟩,fun _ _=>fun _ _ _=>?_⟩;refine⟨Ts σ X l1 l2,fun w Fs o=>⟨X.b,X.h,X.v,X.d.st,X.d.out,X.d.acc,X.d.pa,X.d.pd,X.d.aP,X.d.fo,X.d.n,X.d.id,X.d.had,X.d.r0,X.d.r1,X.d.r2,X.d.r3,X.d.r4,X.d.r5,X.d.r6,_,vX hR.wf hl qI o,rfl,rfl,rfl,rfl,rfl⟩,?_⟩;rintro Cj yX v8 aM aR aY bV cN cY cQ cP kK kL ky kz jL kA kB kC im zm ⟨e1,e2,e3,e4,e5⟩;simp only [agO,and_true]at e1 e2 e3 e4 e5;obtain⟨rfl,rfl⟩:=e1;obtain⟨rfl,rfl,rfl,rfl,rfl,rfl,rfl,rfl⟩:=e3;obtain⟨rfl,rfl,rfl,rfl,rfl,rfl,rfl,rfl,rfl⟩:=e4;subst e2 e5;intro _ _ _;refine⟨by omega,fun _=>⟨fun k=> ∃m:Nat,m≤(s.lY 0).length∧k.i=[(m:Int)],fun k=>(X.d.n - k.i.getD 0 0).toNat,⟨_,rfl,rfl,0,Nat.zero_le _,rfl⟩,?_⟩⟩;rintro aX ⟨m,hm,hi⟩;simp only [agO,and_true]at hi;subst hi;refine⟨fun cZ=>?_,fun uJ=>?_⟩
 ·have Tu:m<(s.lY 0).length:=by omega
  have fQ:=vZ q1 La Tu;simp only [Qb,Int.toNat_natCast];refine⟨by omega,fun _=>fun _ _=>⟨by omega,fun _=>⟨by omega,fun _=>⟨by omega,fun _=>⟨by omega,fun _=>⟨by omega,fun _=>⟨fun bad=>absurd fQ (bad.resolve_left (by omega)),fun _=>⟨by omega,fun _=>⟨by omega,fun _=>⟨_,rfl,rfl,⟨m+1,by omega,rfl⟩,?_⟩⟩⟩⟩⟩⟩⟩⟩⟩⟩;simp only [ah];omega
 have Ca:m=(s.lY 0).length:=by omega
 subst Ca;refine⟨by omega,fun _=>⟨fun k=>k.p=[HP.star (rN z.b8 ra s.lY T),HP.star (rest σ)],fun w Fs o=>⟨_,_,vY hR.wf hl qI (i:=0) (by decide) q1 q2 o,rfl⟩,?_⟩⟩;rintro AR Cm hp;simp only [agO,and_true]at hp;obtain⟨rfl,rfl⟩:=hp;refine⟨fun bad=>absurd rfl bad,fun _=>?_⟩;clear hX qI oI hl ui La RB q1 q2 hm uJ;refine fun _=>?_
 obtain⟨X,hX,qI,oI⟩:=hR.dev 1 (by decide);have qI:X.k=84:=qI;obtain⟨l1,l2,hl⟩:=List.append_of_mem hX;have ui:=hD 1 (by decide);have La:=oI.log;have RB:=oI.n;rw [ui]at La RB;refine⟨Tr 1 ra s.lY T,fun w Fs o=>?_,?_⟩
 ·obtain⟨Hs,A,q1,q2,q3⟩:=vW (i:=1) (by decide) o;exact⟨_,((s.lY 1).length:Int),Hs,_,A 0,A 1,A 2,A 3,A 4,A 5,A 6,_,q3,Hs,A,q1,q2,rfl,rfl,rfl,rfl⟩
 rintro v7 aQ mA mB mo nE nB kq ku kv kx zl ⟨Hs,A,q1,q2,e1,e2,e3,e4⟩;simp only [agO,and_true]at e1 e2 e3 e4;obtain⟨rfl,rfl,rfl,rfl,rfl,rfl,rfl,rfl,rfl⟩:=e3;subst e1 e2 e4;refine⟨fun _=>True,⟨fun _ _=>⟨_,rfl,rfl,trivial⟩,fun _ _=>⟨_,rfl,rfl,trivial⟩⟩,fun _ _=>fun _ _ _=>?_⟩;refine⟨Ts σ X l1 l2,fun w Fs o=>⟨X.b,X.h,X.v,X.d.st,X.d.out,X.d.acc,X.d.pa,X.d.pd,X.d.aP,X.d.fo,X.d.n,X.d.id,X.d.had,X.d.r0,X.d.r1,X.d.r2,X.d.r3,X.d.r4,X.d.r5,X.d.r6,_,vX hR.wf hl qI o,rfl,rfl,rfl,rfl,rfl⟩,?_⟩;rintro Cj yX v8 aM aR aY bV cN cY cQ cP kK kL ky kz jL kA kB kC im zm ⟨e1,e2,e3,e4,e5⟩;simp only [agO,and_true]at e1 e2 e3 e4 e5;obtain⟨rfl,rfl⟩:=e1;obtain⟨rfl,rfl,rfl,rfl,rfl,rfl,rfl,rfl⟩:=e3;obtain⟨rfl,rfl,rfl,rfl,rfl,rfl,rfl,rfl,rfl⟩:=e4;subst e2 e5;intro _ _ _;refine⟨by omega,fun _=>⟨fun k=> ∃m:Nat,m≤(s.lY 1).length∧k.i=[(m:Int)],fun k=>(X.d.n - k.i.getD 0 0).toNat,⟨_,rfl,rfl,0,Nat.zero_le _,rfl⟩,?_⟩⟩;rintro aX ⟨m,hm,hi⟩;simp only [agO,and_true]at hi;subst hi;refine⟨fun cZ=>?_,fun uJ=>?_⟩
 ·have Tu:m<(s.lY 1).length:=by omega
  have fQ:=vZ q1 La Tu;simp only [Qb,Int.toNat_natCast];refine⟨by omega,fun _=>fun _ _=>⟨by omega,fun _=>⟨by omega,fun _=>⟨by omega,fun _=>⟨by omega,fun _=>⟨by omega,fun _=>⟨fun bad=>absurd fQ (bad.resolve_left (by omega)),fun _=>⟨by omega,fun _=>⟨by omega,fun _=>⟨_,rfl,rfl,⟨m+1,by omega,rfl⟩,?_⟩⟩⟩⟩⟩⟩⟩⟩⟩⟩;simp only [ah];omega
 have Ca:m=(s.lY 1).length:=by omega
 subst Ca;refine⟨by omega,fun _=>⟨fun k=>k.p=[HP.star (rN z.b8 ra s.lY T),HP.star (rest σ)],fun w Fs o=>⟨_,_,vY hR.wf hl qI (i:=1) (by decide) q1 q2 o,rfl⟩,?_⟩⟩;rintro AR Cm hp;simp only [agO,and_true]at hp;obtain⟨rfl,rfl⟩:=hp;refine⟨fun bad=>absurd rfl bad,fun _=>?_⟩;clear hX qI oI hl ui La RB q1 q2 hm uJ;refine fun _=>?_
 obtain⟨X,hX,qI,oI⟩:=hR.dev 2 (by decide);have qI:X.k=162:=qI;obtain⟨l1,l2,hl⟩:=List.append_of_mem hX;have ui:=hD 2 (by decide);have La:=oI.log;have RB:=oI.n;rw [ui]at La RB;refine⟨Tr 2 ra s.lY T,fun w Fs o=>?_,?_⟩
 ·obtain⟨Hs,A,q1,q2,q3⟩:=vW (i:=2) (by decide) o;exact⟨_,((s.lY 2).length:Int),Hs,_,A 0,A 1,A 2,A 3,A 4,A 5,A 6,_,q3,Hs,A,q1,q2,rfl,rfl,rfl,rfl⟩
 rintro v7 aQ mA mB mo nE nB kq ku kv kx zl ⟨Hs,A,q1,q2,e1,e2,e3,e4⟩;simp only [agO,and_true]at e1 e2 e3 e4;obtain⟨rfl,rfl,rfl,rfl,rfl,rfl,rfl,rfl,rfl⟩:=e3;subst e1 e2 e4;refine⟨fun _=>True,⟨fun _ _=>⟨_,rfl,rfl,trivial⟩,fun _ _=>⟨_,rfl,rfl,trivial⟩⟩,fun _ _=>fun _ _ _=>?_⟩;refine⟨Ts σ X l1 l2,fun w Fs o=>⟨X.b,X.h,X.v,X.d.st,X.d.out,X.d.acc,X.d.pa,X.d.pd,X.d.aP,X.d.fo,X.d.n,X.d.id,X.d.had,X.d.r0,X.d.r1,X.d.r2,X.d.r3,X.d.r4,X.d.r5,X.d.r6,_,vX hR.wf hl qI o,rfl,rfl,rfl,rfl,rfl⟩,?_⟩;rintro Cj yX v8 aM aR aY bV cN cY cQ cP kK kL ky kz jL kA kB kC im zm ⟨e1,e2,e3,e4,e5⟩;simp only [agO,and_true]at e1 e2 e3 e4 e5;obtain⟨rfl,rfl⟩:=e1;obtain⟨rfl,rfl,rfl,rfl,rfl,rfl,rfl,rfl⟩:=e3;obtain⟨rfl,rfl,rfl,rfl,rfl,rfl,rfl,rfl,rfl⟩:=e4;subst e2 e5;intro _ _ _;refine⟨by omega,fun _=>⟨fun k=> ∃m:Nat,m≤(s.lY 2).length∧k.i=[(m:Int)],fun k=>(X.d.n - k.i.getD 0 0).toNat,⟨_,rfl,rfl,0,Nat.zero_le _,rfl⟩,?_⟩⟩;rintro aX ⟨m,hm,hi⟩;simp only [agO,and_true]at hi;subst hi;refine⟨fun cZ=>?_,fun uJ=>?_⟩
 ·have Tu:m<(s.lY 2).length:=by omega
  have fQ:=vZ q1 La Tu;simp only [Qb,Int.toNat_natCast];refine⟨by omega,fun _=>fun _ _=>⟨by omega,fun _=>⟨by omega,fun _=>⟨by omega,fun _=>⟨by omega,fun _=>⟨by omega,fun _=>⟨fun bad=>absurd fQ (bad.resolve_left (by omega)),fun _=>⟨by omega,fun _=>⟨by omega,fun _=>⟨_,rfl,rfl,⟨m+1,by omega,rfl⟩,?_⟩⟩⟩⟩⟩⟩⟩⟩⟩⟩;simp only [ah];omega
 have Ca:m=(s.lY 2).length:=by omega
 subst Ca;refine⟨by omega,fun _=>⟨fun k=>k.p=[HP.star (rN z.b8 ra s.lY T),HP.star (rest σ)],fun w Fs o=>⟨_,_,vY hR.wf hl qI (i:=2) (by decide) q1 q2 o,rfl⟩,?_⟩⟩;rintro AR Cm hp;simp only [agO,and_true]at hp;obtain⟨rfl,rfl⟩:=hp;refine⟨fun bad=>absurd rfl bad,fun _=>?_⟩;clear hX qI oI hl ui La RB q1 q2 hm uJ;refine fun _=>?_
 obtain⟨X,hX,qI,oI⟩:=hR.dev 3 (by decide);have qI:X.k=660:=qI;obtain⟨l1,l2,hl⟩:=List.append_of_mem hX;have ui:=hD 3 (by decide);have La:=oI.log;have RB:=oI.n;rw [ui]at La RB;refine⟨Tr 3 ra s.lY T,fun w Fs o=>?_,?_⟩
 ·obtain⟨Hs,A,q1,q2,q3⟩:=vW (i:=3) (by decide) o;exact⟨_,((s.lY 3).length:Int),Hs,_,A 0,A 1,A 2,A 3,A 4,A 5,A 6,_,q3,Hs,A,q1,q2,rfl,rfl,rfl,rfl⟩
 rintro v7 aQ mA mB mo nE nB kq ku kv kx zl ⟨Hs,A,q1,q2,e1,e2,e3,e4⟩;simp only [agO,and_true]at e1 e2 e3 e4;obtain⟨rfl,rfl,rfl,rfl,rfl,rfl,rfl,rfl,rfl⟩:=e3;subst e1 e2 e4;refine⟨fun _=>True,⟨fun _ _=>⟨_,rfl,rfl,trivial⟩,fun _ _=>⟨_,rfl,rfl,trivial⟩⟩,fun _ _=>fun _ _ _=>?_⟩;refine⟨Ts σ X l1 l2,fun w Fs o=>⟨X.b,X.h,X.v,X.d.st,X.d.out,X.d.acc,X.d.pa,X.d.pd,X.d.aP,X.d.fo,X.d.n,X.d.id,X.d.had,X.d.r0,X.d.r1,X.d.r2,X.d.r3,X.d.r4,X.d.r5,X.d.r6,_,vX hR.wf hl qI o,rfl,rfl,rfl,rfl,rfl⟩,?_⟩;rintro Cj yX v8 aM aR aY bV cN cY cQ cP kK kL ky kz jL kA kB kC im zm ⟨e1,e2,e3,e4,e5⟩;simp only [agO,and_true]at e1 e2 e3 e4 e5;obtain⟨rfl,rfl⟩:=e1;obtain⟨rfl,rfl,rfl,rfl,rfl,rfl,rfl,rfl⟩:=e3;obtain⟨rfl,rfl,rfl,rfl,rfl,rfl,rfl,rfl,rfl⟩:=e4;subst e2 e5;intro _ _ _;refine⟨by omega,fun _=>⟨fun k=> ∃m:Nat,m≤(s.lY 3).length∧k.i=[(m:Int)],fun k=>(X.d.n - k.i.getD 0 0).toNat,⟨_,rfl,rfl,0,Nat.zero_le _,rfl⟩,?_⟩⟩;rintro aX ⟨m,hm,hi⟩;simp only [agO,and_true]at hi;subst hi;refine⟨fun cZ=>?_,fun uJ=>?_⟩
 ·have Tu:m<(s.lY 3).length:=by omega
  have fQ:=vZ q1 La Tu;simp only [Qb,Int.toNat_natCast];refine⟨by omega,fun _=>fun _ _=>⟨by omega,fun _=>⟨by omega,fun _=>⟨by omega,fun _=>⟨by omega,fun _=>⟨by omega,fun _=>⟨fun bad=>absurd fQ (bad.resolve_left (by omega)),fun _=>⟨by omega,fun _=>⟨by omega,fun _=>⟨_,rfl,rfl,⟨m+1,by omega,rfl⟩,?_⟩⟩⟩⟩⟩⟩⟩⟩⟩⟩;simp only [ah];omega
 have Ca:m=(s.lY 3).length:=by omega
 subst Ca;refine⟨by omega,fun _=>⟨fun k=>k.p=[HP.star (rN z.b8 ra s.lY T),HP.star (rest σ)],fun w Fs o=>⟨_,_,vY hR.wf hl qI (i:=3) (by decide) q1 q2 o,rfl⟩,?_⟩⟩;rintro AR Cm hp;simp only [agO,and_true]at hp;obtain⟨rfl,rfl⟩:=hp;refine⟨fun bad=>absurd rfl bad,fun _=>?_⟩;exact rfl
end Go.RX.Ef

namespace Go.RX.Sh
open Go.RX
def cW(a:E):List cb:=[⟨.int .u32,1,a⟩]
def cB(a:E):List cb:=[⟨.int .u8,1,a⟩]
def cL(a:E):List cb:=[⟨.int .u64,1,a⟩]
def Lc(b h k:Nat):Ck:= .row b true ([.vv h,.vv k]++[4,2,13,22,6,11,25,7,18,3,17,19,10].map fun n:Int=> .int .i64 (.lit n))
def Ld:List Ck:=[Lc 0 0 1,.cy true 0 107 1 (.lit 8) (cW (.aw 0)),.cy true 1 107 1 (.lit 64) (cW (.aw 1)),.cy true 2 5 1 (.var 0) (cB (.aw 2))]
def ints(k:IntKind)(i:Nat):Nat→List SV
 | 0=>[]
 | n+1=> .int k (.var i)::ints k (i+1) n
def hpW(c:cF)(h:List Ck):List Ck:=
 match h with
 | [m,hh,k,r,.cy md v t s n _]=>[m,hh,k,r,.cy md v t s n (cW (.aw c.a))]
 | h=>h
def hpX(c:cF)(h:List Ck):List Ck:=
 match h with
 | [m,hh,k,r,w,.row b wr _]=>[m,hh,k,r,w,.row b wr (ints .u32 c.i 8)]
 | h=>h
def hpH(c:cF)(h:List Ck):List Ck:=
 match h with
 | m:: .cy md v t s n _::k::r::w:: .row b wr _::q=>m:: .cy md v t s n (cW (.aw c.a))::k::r::w:: .row b wr [.a_ .u32 8 (.aw (c.a+1))]::q
 | h=>h
def zx(ck:Ck)(h:List Ck):List Ck:=
 match h.reverse.findIdx? (fun | .cy .. =>true | _=>false)with
 | some i=>(h.reverse.set i ck).reverse
 | none=>[]
def E9(cs:List SV):List Ck→List Ck
 | []=>[]
 | .row b w x::r=>if SV.qN x=8 then .row b w cs::r else .row b w x::E9 cs r
 | c::r=>c::E9 cs r
def loops(f id:Nat):Option jg:=
 match f,id with
 | 130,0=>some {inc:={i:=2},slots:=fun c=>[(3,.int .u64 (.var c.i)),(4,.int .i64 (.var (c.i+1)))],hp:=fun _ h=>h}
 | 127,0=>some {inc:={i:=1,a:=1},slots:=fun c=>[(25,.int .i64 (.var c.i))],hp:=hpW}
 | 127,2=>some {inc:={i:=1,a:=1},slots:=fun c=>[(6,.int .i64 (.var c.i))],hp:=hpW}
 | 127,4=>some {inc:={i:=9},slots:=fun c=>[(110,.int .i64 (.var (c.i+8)))],hp:=hpX}
 | 113,2=>some {inc:={i:=9},slots:=fun c=>[(11,.int .i64 (.var (c.i+8)))],hp:=fun c h=>E9 (ints .u64 c.i 8) h}
 | 113,4=>some {pre:=[.slot 12 70],inc:={i:=1,v:=1,a:=1},slots:=fun c=>[(13,.int .i64 (.var c.i)),(12,.vv c.v)],hp:=fun c h=>zx (.cy true c.v 70 1 (.var c.i) (cL (.aw c.a))) h}
 | 113,14=>some {pre:=[.slot 20 5],inc:={i:=2,v:=1,a:=2},slots:=fun c=>[(21,.int .i64 (.var c.i)),(20,.vv c.v)],hp:=fun c h=>E9 [.a_ .u64 8 (.aw (c.a+1))] (zx (.cy true c.v 5 1 (.var (c.i+1)) (cB (.aw c.a))) h)}
 | 113,8=>some {inc:={i:=1,v:=1,a:=1},slots:=fun c=>[(16,.int .i64 (.var c.i)),(12,.vv c.v)],hp:=fun c h=>zx (.cy true c.v 70 1 (.var c.i) (cL (.aw c.a))) h}
 | 113,10=>some {inc:={i:=1,v:=1,a:=1},slots:=fun c=>[(18,.int .i64 (.var c.i)),(17,.vv c.v)],hp:=fun c h=>zx (.cy true c.v 70 1 (.lit 8) (cL (.aw c.a))) h}
 | 127,6=>some {inc:={i:=1,a:=2},slots:=fun c=>[(189,.int .i64 (.var c.i))],hp:=hpH}
 | _,_=>none
def Hr(az:List SV)(hp:List Ck):List Nat:=
 match az with
 | [.ptr b 0,.ji v _ _]=>
  match findAt hp b,ef hp v with
  | some (j,.row _ _ (.vv h:: .vv k::_)),some (r,_)=>
   match ef hp h,ef hp k with
   | some (x,_),some (y,_)=>[j,x,y,r]
   | _,_=>[]
  | _,_=>[]
 | _=>[]
def Ht(c:cF)(h:List Ck):List Ck:=
 match h with
 | [m,.cy md v t s n _,k,r]=>[m,.cy md v t s n (cW (.aw c.a)),k,r]
 | h=>h
def yp(az:List SV)(hp:List Ck):List Nat:=
 match az with
 | .vv v::_=>match ef hp v with
  | some (j,_)=>[j]
  | none=>[]
 | _=>[]
def rowsOf(hp:List Ck):List SV→List Nat
 | []=>[]
 | .sl b _ _ _ _::r=>match findAt hp b with
  | some (j,_)=>j::rowsOf hp r
  | none=>[]
 | _::_=>[]
def EG(az:List SV)(hp:List Ck):List Nat:=
 match az with
 | [.sl b _ _ _ _]=>match findAt hp b with
  | some (j,.row _ _ cs)=>rowsOf hp cs++[j]
  | _=>[]
 | _=>[]
def Uy:List Ck:=[
 .row 0 false ([104,97,105,108,101,114,32,109,101,100,105,97].map fun n:Int=> .int .u8 (.lit n)),
 .row 1 true [.a_ .u8 16 (.aw 0)],.row 2 true [.a_ .u8 32 (.aw 1)],.row 3 true [.a_ .u8 32 (.aw 2)],
 .row 4 true [.int .u8 (.var 0),.int .u8 (.var 1),.int .u8 (.var 2),.int .u8 (.var 3)],
 .row 5 true [.sl 0 (.lit 0) 1 (.lit 12) (.lit 12),.sl 1 (.lit 0) 1 (.lit 16) (.lit 16),.sl 2 (.lit 0) 1 (.lit 32) (.lit 32),.sl 3 (.lit 0) 1 (.lit 32) (.lit 32),.sl 4 (.lit 0) 1 (.lit 4) (.lit 4)]]
def four:bp:={use:=fun _ _=>[],inc:={i:=1},val:=fun c=> .int .u64 (.var c.i),new:=fun _ _=>[]}
def Y9:List SV→SV
 | [.int _ (.lit n)]=> .int .u64 (.lit (2^n.toNat))
 | _=> .undef
def power:bp:={use:=fun _ _=>[],val:=fun _=> .undef,new:=fun _ _=>[],valOf:=some fun az _=>Y9 az}
def calls(f s:Nat):Option bp:=
 match f,s with
 | 112,46=>some {use:=Hr,inc:={a:=1},val:=fun _=> .lp [],new:=Ht}
 | 112,106=>some {use:=Hr,inc:={a:=1},val:=fun _=> .lp [],new:=Ht}
 | 78,3=>some {use:=fun _ _=>[],inc:={b:=1,v:=2,a:=2},val:=fun c=> .ptr c.b 0,new:=fun c _=>[.cy true c.v 107 1 (.lit 8) (cW (.aw c.a)),.cy true (c.v+1) 107 1 (.lit 64) (cW (.aw (c.a+1))),Lc c.b c.v (c.v+1)]}
 | 44,26=>some {use:=EG,inc:={a:=1},val:=fun c=> .agg [.a_ .u8 32 (.aw c.a)],new:=fun _ h=>h}
 | 113,26=>some {use:=fun _ _=>[],inc:={v:=1,a:=1},val:=fun c=> .vv c.v,new:=fun c _=>[.cy true c.v 70 1 (.lit 80) (cL (.aw c.a))]}
 | 113,97=>some four
 | 113,110=>some four
 | 113,47=>some {use:=yp,inc:={v:=1,a:=1},val:=fun c=> .vv c.v,new:=fun c h=>h++[.cy true c.v 5 1 (.lit 128) (cB (.aw c.a))]}
 | 80,7=>some {use:=yp,inc:={v:=1,a:=1},val:=fun c=> .vv c.v,new:=fun c h=>h++[.cy true c.v 5 1 (.lit 32) (cB (.aw c.a))]}
 | 113,29=>some power
 | 113,179=>some power
 | 141,16=>some power
 | 143,9=>some power
 | 143,15=>some power
 | 132,10=>some power
 | 134,21=>some four
 | 134,51=>some four
 | 113,142=>some {use:=yp,inc:={v:=1,a:=1},val:=fun c=> .vv c.v,new:=fun c _=>[.cy true c.v 70 1 (.lit 8) (cL (.aw c.a))]}
 | _,_=>none
end Go.RX.Sh

namespace Go.RX.Dt
open Go.RX
def row(b d:Nat):Ck:= .row b true [Ma.u8 0,Ma.u8 1,.a_ .u8 8 (.aw 0),.ptr d 0,Ma.u8 2,.a_ .u8 16 (.aw 1),.bool (.nz (.var 3)),Ma.u8 4,Ma.u8 5,Ma.u8 6,.a_ .u8 32 (.aw 2),.a_ .u8 32 (.aw 3),.a_ .u8 32 (.aw 4),
 .dh (.var 7),.dh (.var 8),Ma.u64 9,Ma.u64 10,Ma.u64 11,Ma.u64 12,Ma.u64 13,.int .u32 (.var 14)]
def hp:List Ck:=[.row 0 true [.sl 1 (.lit 96) 1 (.lit 32) (.lit 32)],row 1 2]
def aS:cF:={b:=3,i:=15,a:=5}
end Go.RX.Dt

namespace Go.RX.Sh
open Go.RX Go.Proofs
noncomputable def cx:Ctx:={T:=TT,FT:=FT,loops:=loops,calls:=calls}
end Go.RX.Sh

namespace Go.RX.Dt
open Go.RX Go.Proofs
noncomputable def cx:Ctx:={T:=TT,FT:=FT,loops:=Sh.loops,calls:=Sh.calls}
end Go.RX.Dt
