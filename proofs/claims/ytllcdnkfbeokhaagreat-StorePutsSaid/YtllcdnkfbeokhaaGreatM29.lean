/- The store's walker. -/
import Derived.Test.YtllcdnkfbeokhaaGreatM28
open Go.IntKind renaming wrap -> ae
open Go.Proofs.Tryz renaming prog -> ax8
open Int renaming toNat -> ag
open List renaming append -> axQ
namespace Go.RX.Vb
open Go.RX Go.Proofs
set_option maxRecDepth 100000
set_option maxHeartbeats 4000000
def SK(al:PT)(x0 x1 x2 x3 x4 x5 x6 x7 x8 x9 bA bH bR bN dP b_ dD cq dt cO d_ gN eT ff e9:Int)(A0 A1 A2 A3 A4 A5 A6 A7 A8 A9 dM dx dC fH gw gx fw eY eQ fb fg fR:Nat->Int)(v0 v1 v2 v3 v4 v5 v6:V1)(p0:HP):Prop:=
 ∀_:Nat,Cl 10 [yW A0 x0 x1 x2 A1 A2 v0 x3 v1 x4 x5 A3 v2 x6 A4 (!(x7==0)) x8 x9 bA A5 A6 A7 v3 bH v4 bR bN dP b_ dD cq v5 v6] [m8 v0 dt A8 A9,m9 v1 cO dM dx dC,mu v2 d_ fH,bQ v3 gN gw,mr v4 eT gx fw,bQ v5 ff eY,qw v6 e9 eQ fb fg fR,p0] <| hd8 λq0=>
 bf (¬(q0=true)) (
 al (.tuple #[.slice none 0 0,.int .i64 2]) []) (
 Cl 13 [yW A0 x0 x1 x2 A1 A2 v0 x3 v1 x4 x5 A3 v2 x6 A4 (!(x7==0)) x8 x9 bA A5 A6 A7 v3 bH v4 bR bN dP b_ dD cq v5 v6] [m8 v0 dt A8 A9,m9 v1 cO dM dx dC,mu v2 d_ fH,bQ v3 gN gw,mr v4 eT gx fw,bQ v5 ff eY,qw v6 e9 eQ fb fg fR,p0] <| Y9 λ_ i_ iB=>
 ay (0<=i_) (
 bf (4194286<i_) (
 al (.tuple #[.slice none 0 0,.int .i64 3]) []) (
 ∀b1 b2:Nat,Cl 21 [pp b2,.int .u64 (ae .u64 i_),.int .i64 4] [ak b2 true ([.bool true,.slice (some ⟨b1,0,none⟩) 6 6,.bool false]),Ru b1] λx hs _=> ∃(v8:V1) (ki iM:Int) (jk:Nat->Int),x= .int .u64 ki/\hs=[gu b2 v8,cr v8 iM jk]/\
 ay (0<=iM) (
 j8 (iM+i_) (
 ∀(v9:V1) (b3:Nat),Cl 22 [.slice (some ⟨b3,0,none⟩) 1 1] [ak b3 true ([v9.v]),cr v9 (iM+i_) (bV jk (ag iM) (ag i_) iB)] λx hs l=> ∃iG:(Nat->Int),x= .agg (axQ (aj .u8 32 iG) ([])).toArray/\hs=l/\
 ∀_:Nat,ay (0<=(iM+i_)) (
 j8 ((iM+i_)+8) (
 ∀v10:V1,al (.tuple #[v10.v,.int .i64 0]) [cr v10 ((iM+i_)+8) (bV (bV jk (ag iM) (ag i_) iB) (ag (iM+i_)) 8 iG)])))))))
theorem abM(al:PT)(x0 x1 x2 x3 x4 x5 x6 x7 x8 x9 bA bH bR bN dP b_ dD cq dt cO d_ gN eT ff e9:Int)(A0 A1 A2 A3 A4 A5 A6 A7 A8 A9 dM dx dC fH gw gx fw eY eQ fb fg fR:Nat->Int)(v0 v1 v2 v3 v4 v5 v6:V1)(p0:HP)(h:SK al x0 x1 x2 x3 x4 x5 x6 x7 x8 x9 bA bH bR bN dP b_ dD cq dt cO d_ gN eT ff e9 A0 A1 A2 A3 A4 A5 A6 A7 A8 A9 dM dx dC fH gw gx fw eY eQ fb fg fR v0 v1 v2 v3 v4 v5 v6 p0):ao ax8 9 [yW A0 x0 x1 x2 A1 A2 v0 x3 v1 x4 x5 A3 v2 x6 A4 (!(x7==0)) x8 x9 bA A5 A6 A7 v3 bH v4 bR bN dP b_ dD cq v5 v6] [m8 v0 dt A8 A9,m9 v1 cO dM dx dC,mu v2 d_ fH,bQ v3 gN gw,mr v4 eT gx fw,bQ v5 ff eY,qw v6 e9 eQ fb fg fR,p0] al:=
 vm (C:=alx) Vr.Ze Vq.LU Vq.uS ⟨[x0,x1,x2,x3,x4,x5,x6,x7,x8,x9,bA,bH,bR,bN,dP,b_,dD,cq,dt,cO,d_,gN,eT,ff,e9],[A0,A1,A2,A3,A4,A5,A6,A7,A8,A9,dM,dx,dC,fH,gw,gx,fw,eY,eQ,fb,fg,fR],[],[],[v0,v1,v2,v3,v4,v5,v6],[],[p0],[]⟩ Tryz.func9 (by kernel_rfl) h
def L_(al:PT)(x0:Int)(b0 b1:Nat):Prop:=
 ∀(b2:Nat) (_:V1) (b3:Nat) (_:V1) (b4:Nat) (_:V1) (b5:Nat) (v3:V1),al (.int .u64 x0) [gu b0 v3,Ru b1,ak b2 true ([.int .u8 (ae .u8 (ar .shr .u64 x0 24))]),aA true 5 1 v3.v 10 (aG 10 [ax .u8 1 (au (au (au (bV (au (au (au (au (au (au (λ_=>0) 0 72) 1 76) 2 83) 3 84) 4 0) 5 1) 6 1 (au (λ_=>0) 0 (ae .u8 (ar .shr .u64 x0 24)))) 7 (ae .u8 (ar .shr .u64 x0 16))) 8 (ae .u8 (ar .shr .u64 x0 8))) 9 (ae .u8 (ar .shr .u64 x0 0)))]),ak b3 true ([.int .u8 (ae .u8 (ar .shr .u64 x0 16))]),ak b4 true ([.int .u8 (ae .u8 (ar .shr .u64 x0 8))]),ak b5 true ([.int .u8 (ae .u8 (ar .shr .u64 x0 0))])]
theorem Xm(al:PT)(x0:Int)(b0 b1:Nat)(h:L_ al x0 b0 b1):ao ax8 21 [pp b0,.int .u64 x0,.int .i64 4] [ak b0 true ([.bool true,.slice (some ⟨b1,0,none⟩) 6 6,.bool false]),Ru b1] al:=
 vm (C:=cx) Vr.aa5 Vr.WV Vr.Sa ⟨[x0],[],[],[b0,b1],[],[],[],[]⟩ Tryz.func21 (by kernel_rfl) h
open Go.RX Go.Proofs
set_option maxRecDepth 100000
set_option maxHeartbeats 4000000
def Ma(al:PT)(x0 x1 x2 x3 x4 x5 x6 x7 x8 x9 bA bH bR bN dP b_ dD cq dt cO d_ gN eT ff e9:Int)(A0 A1 A2 A3 A4 A5 A6 A7 A8 A9 dM dx dC fH gw gx fw eY eQ fb fg fR:Nat->Int)(v0 v1 v2 v3 v4 v5 v6:V1)(p0:HP):Prop:=
 ∀b0 b1:Nat,∃Zl:Ext->Prop,(∀(w:World) (Fs:List HP),aU ([ak b1 true ([.bool true,.slice none 0 0,.bool false])]++Fs) w->∃v7:V1,aU ([gu b1 v7,aA true 5 1 v7.v 0 (aG 0 [ax .u8 1 (λ_=>0)])]++Fs) w/\Zl ⟨[],[v7],[],[],[],[],[]⟩)/\
 (∀v7:V1,Zl ⟨[],[v7],[],[],[],[],[]⟩->
 Cl 32 [pp b1,pp b0] [gu b1 v7,aA true 5 1 v7.v 0 (aG 0 [ax .u8 1 (λ_=>0)]),Rs b0 A0 x0 x1 x2 A1 A2 v0 x3 v1 x4 x5 A3 v2 x6 A4 (!(x7==0)) x8 x9 bA A5 A6 A7 v3 bH v4 bR bN dP b_ dD cq v5 v6,m8 v0 dt A8 A9,m9 v1 cO dM dx dC,mu v2 d_ fH,bQ v3 gN gw,mr v4 eT gx fw,bQ v5 ff eY,qw v6 e9 eQ fb fg fR,p0] λx hs _=> ∃(v8:V1) (i_:Int) (iB:Nat->Int),x= .tuple #[]/\hs=[gu b1 v8,cr v8 i_ iB]/\
 al (v8.v) [HP.emp,HP.emp,HP.emp,HP.emp,HP.emp,HP.emp,HP.emp,HP.emp,HP.emp,gu b1 v8,cr v8 i_ iB])
theorem Xn(al:PT)(x0 x1 x2 x3 x4 x5 x6 x7 x8 x9 bA bH bR bN dP b_ dD cq dt cO d_ gN eT ff e9:Int)(A0 A1 A2 A3 A4 A5 A6 A7 A8 A9 dM dx dC fH gw gx fw eY eQ fb fg fR:Nat->Int)(v0 v1 v2 v3 v4 v5 v6:V1)(p0:HP)(h:Ma al x0 x1 x2 x3 x4 x5 x6 x7 x8 x9 bA bH bR bN dP b_ dD cq dt cO d_ gN eT ff e9 A0 A1 A2 A3 A4 A5 A6 A7 A8 A9 dM dx dC fH gw gx fw eY eQ fb fg fR v0 v1 v2 v3 v4 v5 v6 p0):ao ax8 13 [yW A0 x0 x1 x2 A1 A2 v0 x3 v1 x4 x5 A3 v2 x6 A4 (!(x7==0)) x8 x9 bA A5 A6 A7 v3 bH v4 bR bN dP b_ dD cq v5 v6] [m8 v0 dt A8 A9,m9 v1 cO dM dx dC,mu v2 d_ fH,bQ v3 gN gw,mr v4 eT gx fw,bQ v5 ff eY,qw v6 e9 eQ fb fg fR,p0] al:=
 vm (C:=alw) Vr.Ze Vq.LU Vq.uS ⟨[x0,x1,x2,x3,x4,x5,x6,x7,x8,x9,bA,bH,bR,bN,dP,b_,dD,cq,dt,cO,d_,gN,eT,ff,e9],[A0,A1,A2,A3,A4,A5,A6,A7,A8,A9,dM,dx,dC,fH,gw,gx,fw,eY,eQ,fb,fg,fR],[],[],[v0,v1,v2,v3,v4,v5,v6],[],[p0],[]⟩ Tryz.func13 (by kernel_rfl) h
open Go.RX Go.Proofs
noncomputable def cxQ:Ctx:={T:=TT,FT:=FT,loops:=Vq.loops,bj:=Vq.bj}
noncomputable def aly:Ctx:={T:=TT,FT:=FT,loops:=Vq.aaY}
noncomputable def alz:Ctx:={T:=TT,FT:=FT,bj:=Vq.R9}
open Go.RX Go.Proofs
set_option maxRecDepth 100000
set_option maxHeartbeats 4000000
def SL(al:PT)(x0 x1 x2 x3 x4 x5 x6 x7:Int)(A0 A1 A2 A3 A4:Nat->Int)(b0 b1:Nat):Prop:=
 ∀b2:Nat,bf (¬((A4 (ag ((aT ((List.range 16).map A2):Nat):Int)))=0)) (
 al (.tuple #[(dr (A4 (ag ((aT ((List.range 16).map A2):Nat):Int)))),.bool true]) [Wt b0 x0 x1 A0 x2 x3 x4 x5 b1 A1,JU b1 A3 A4,ak b2 true (axQ (aj .u8 16 A2) ([]))]) (
 bf (8<=(A3 0)) (
 al (.tuple #[.pointer none,.bool false]) [Wt b0 x0 x1 A0 x2 x3 x4 x5 b1 A1,JU b1 A3 A4,ak b2 true (axQ (aj .u8 16 A2) ([]))]) (
 ∀b3 b4 b5 b6 _ _ _ _ _ Mb:Nat,al (.tuple #[pp b6,.bool true]) [Wt b0 x0 x1 A0 x2 x3 x4 x5 b1 A1,pA b1 [.u8,.u8,.u8,.u8,.u8,.u8,.u8,.u8,.u8,.u8,.u8,.u8,.u8,.u8,.u8,.u8] true false ([.pointer none]) (au (au A3 0 (((A3 0)+1) - (ar .jl .i64 (A3 (ag ((aT ((List.range 16).map A2):Nat):Int))) 1))) (ag ((aT ((List.range 16).map A2):Nat):Int)) 1) (Rd [vF 1 (au A4 (ag ((aT ((List.range 16).map A2):Nat):Int)) ((b6:Nat)+1:Int))]),ak b2 true (axQ (aj .u8 16 A2) ([])),ak b3 true ([.func (.func 79) #[pp b0] #[]]),ak b4 true ([.int .u8 x0,.int .u8 x1]),ak b5 true ((.iface 292 (pp b3))::(.int .u8 x0::(.int .u8 x1::(.bool false::(axQ (aj .u8 16 (λ_=>0)) ([.int .u64 0,.slice none 0 0,.slice none 0 0,.slice none 0 0])))))),ak b6 true ([pp b5,pp Mb,.bool false,.bool (!(x7==0)),.int .u8 x6,.int .u64 0])]))
theorem abN(al:PT)(x0 x1 x2 x3 x4 x5 x6 x7:Int)(A0 A1 A2 A3 A4:Nat->Int)(b0 b1:Nat)(h:SL al x0 x1 x2 x3 x4 x5 x6 x7 A0 A1 A2 A3 A4 b0 b1):ao ax8 38 [pp b0,.agg (axQ (aj .u8 16 A2) ([])).toArray,.int .u8 x6,.bool (!(x7==0))] [Wt b0 x0 x1 A0 x2 x3 x4 x5 b1 A1,JU b1 A3 A4] al:=
 qv (C:=cx) Vq.akV Vq.afR Vq.aaS ⟨[x0,x1,x2,x3,x4,x5,x6,x7],[A0,A1,A2,A3,A4],[],[b0,b1],[],[],[],[]⟩ 7 Tryz.func38 (by kernel_rfl) h
def SM(al:PT)(x0 x1 x2 x3 x4 x5 x6 x7 x8 x9 bA bH bR bN dP b_ dD cq dt cO d_ gN eT ff e9:Int)(A0 A1 A2 A3 A4 A5 A6 A7 A8 A9 dM dx dC fH gw gx fw eY eQ fb fg fR:Nat->Int)(v0 v1 v2 v3 v4 v5 v6:V1)(p0:HP):Prop:=
 ∀_:Nat,Cl 34 [.agg (.int .u8 x1::(.int .u8 x2::(axQ (aj .u8 32 A1) (axQ (aj .u8 32 A2) ([v0.v,.int .i64 x3,v1.v]))))).toArray] [m8 v0 dt A8 A9,m9 v1 cO dM dx dC,p0] <| hd9 λi_ ki=>
 bf (¬(ki=0)) (
 al (.tuple #[.pointer none,.int .i64 ki]) []) (
 Cl 35 [.agg (.int .u8 x4::(.int .u8 x5::(axQ (aj .u8 8 A3) (v2.v::(.int .u8 x6::(axQ (aj .u8 16 A4) (.bool (!(x7==0))::(.int .u8 x8::(.int .u8 x9::(.int .u8 bA::(axQ (aj .u8 32 A5) (axQ (aj .u8 32 A6) (axQ (aj .u8 32 A7) ([v3.v,.int .i64 bH,v4.v,.int .u64 bR,.int .u64 bN,.int .u64 dP,.int .u64 b_,.int .u64 dD,.int .u32 cq])))))))))))))).toArray] [mu v2 d_ fH,bQ v3 gN gw,mr v4 eT gx fw] <| hd9 λiM jY=>
 bf (¬(jY=0)) (
 al (.tuple #[.pointer none,.int .i64 jY]) []) (
 Cl 36 [v5.v] [bQ v5 ff eY] <| hd9 λrj pR=>
 bf (¬(pR=0)) (
 al (.tuple #[.pointer none,.int .i64 pR]) []) (
 ay ((¬((x4=x1)/\(x5=x2)))\/(0<=e9)) (
 bf ((¬((x4=x1)/\(x5=x2)))\/(8<e9)) (
 al (.tuple #[.pointer none,.int .i64 2]) []) (
 ∀b1 b2:Nat,ay (0<=e9) (
 ∃(kz:Ext->Prop) (tO:Ext->Nat),(∃(jw:Int) (iB jk:Nat->Int),jw=0/\(iB=(λ_=>0))/\(jk=(λ_=>0))/\kz ⟨[],[],[jw],[iB,jk],[],[],[]⟩)/\
 ∀(jw:Int) (iB jk:Nat->Int),kz ⟨[],[],[jw],[iB,jk],[],[],[]⟩->
 bf (jw<e9) (
 ay (0<=jw) (
 ∀b3:Nat,ay ((¬(0<jw))\/((-9223372036854775808)<=(jw - 1))) (
 ay ((¬(0<jw))\/((jw - 1)<=9223372036854775807)) (
 ay ((¬(0<jw))\/(0<=(jw - 1))) (
 ay ((¬(0<jw))\/((jw - 1)<e9)) (
 ay ((¬(0<jw))\/(0<=(jw - 1))) (
 ay ((¬(0<jw))\/((jw - 1)<e9)) (
 ay ((¬(0<jw))\/(0<=(jw - 1))) (
 ay ((¬(0<jw))\/((jw - 1)<e9)) (
 bf (0<jw) (
 Cl 37 [(Ay v6.v ((ag (jw - 1))*19+0) 16),.slice (some ⟨b3,0,none⟩) 16 16] [qw v6 e9 eQ fb fg fR,G8 b3 (bx eQ (ag (jw*16))) (fb (ag jw)) (!((fg (ag jw))==0)) (fR (ag jw))] λx hs l=> ∃LX:Int,x= .int .i64 LX/\hs=l/\
 bf ((0<=LX)\/(8<=(fb (ag jw)))) (
 al (.tuple #[.pointer none,.int .i64 2]) []) (
 Cl 38 [pp b2,.agg (axQ (aj .u8 16 (bx eQ (ag (jw*16)))) ([])).toArray,.int .u8 (fb (ag jw)),.bool (!((fg (ag jw))==0))] [Ws b2 x4 x5 A0 x0 i_ iM rj b1,JU b1 iB jk] λx hs _=> ∃(b4:Nat) (Ah uV uW:Int) (iG kH:Nat->Int) (q0:Bool),x= .tuple #[pp b4,.bool true]/\hs=[Ws b2 x4 x5 A0 x0 i_ iM rj b1,JU b1 iG kH,ak b4 true ([(dr Ah),(dr uV),.bool false,.bool q0,.int .u8 uW,.int .u64 0])]/\
 fj (jw+1) ((
 ∃(BK:Int) (BL BM:Nat->Int),BK=(jw+1)/\(BL=iG)/\(BM=kH)/\Dn kz tO ⟨[],[],[BK],[BL,BM],[],[],[]⟩ ⟨[],[],[jw],[iB,jk],[],[],[]⟩)))) (
 bf (8<=(fb (ag jw))) (
 al (.tuple #[.pointer none,.int .i64 2]) []) (
 Cl 38 [pp b2,.agg (axQ (aj .u8 16 (bx eQ (ag (jw*16)))) ([])).toArray,.int .u8 (fb (ag jw)),.bool (!((fg (ag jw))==0))] [Ws b2 x4 x5 A0 x0 i_ iM rj b1,JU b1 iB jk] λx hs _=> ∃(b4:Nat) (LX Ah uV:Int) (iG kH:Nat->Int) (q0:Bool),x= .tuple #[pp b4,.bool true]/\hs=[Ws b2 x4 x5 A0 x0 i_ iM rj b1,JU b1 iG kH,ak b4 true ([(dr LX),(dr Ah),.bool false,.bool q0,.int .u8 uV,.int .u64 0])]/\
 fj (jw+1) ((
 ∃(BK:Int) (BL BM:Nat->Int),BK=(jw+1)/\(BL=iG)/\(BM=kH)/\Dn kz tO ⟨[],[],[BK],[BL,BM],[],[],[]⟩ ⟨[],[],[jw],[iB,jk],[],[],[]⟩)))))))))))))) (
 al (.tuple #[pp b2,.int .i64 0]) [])))))))
theorem abO(al:PT)(x0 x1 x2 x3 x4 x5 x6 x7 x8 x9 bA bH bR bN dP b_ dD cq dt cO d_ gN eT ff e9:Int)(A0 A1 A2 A3 A4 A5 A6 A7 A8 A9 dM dx dC fH gw gx fw eY eQ fb fg fR:Nat->Int)(v0 v1 v2 v3 v4 v5 v6:V1)(p0:HP)(h:SM al x0 x1 x2 x3 x4 x5 x6 x7 x8 x9 bA bH bR bN dP b_ dD cq dt cO d_ gN eT ff e9 A0 A1 A2 A3 A4 A5 A6 A7 A8 A9 dM dx dC fH gw gx fw eY eQ fb fg fR v0 v1 v2 v3 v4 v5 v6 p0):ao ax8 15 [yW A0 x0 x1 x2 A1 A2 v0 x3 v1 x4 x5 A3 v2 x6 A4 (!(x7==0)) x8 x9 bA A5 A6 A7 v3 bH v4 bR bN dP b_ dD cq v5 v6,.nilIface] [m8 v0 dt A8 A9,m9 v1 cO dM dx dC,mu v2 d_ fH,bQ v3 gN gw,mr v4 eT gx fw,bQ v5 ff eY,qw v6 e9 eQ fb fg fR,p0] al:=
 qv (C:=cxQ) Vq.aaW Vq.LU Vq.uS ⟨[x0,x1,x2,x3,x4,x5,x6,x7,x8,x9,bA,bH,bR,bN,dP,b_,dD,cq,dt,cO,d_,gN,eT,ff,e9],[A0,A1,A2,A3,A4,A5,A6,A7,A8,A9,dM,dx,dC,fH,gw,gx,fw,eY,eQ,fb,fg,fR],[],[],[v0,v1,v2,v3,v4,v5,v6],[],[p0],[]⟩ 0 Tryz.func15 (by kernel_rfl) h
def SN(al:PT)(x0 x1:Int)(A0 A1:Nat->Int)(v0 v1:V1):Prop:=
 ay (0<=x0) (
 ∃(bO:Ext->Prop) (dG:Ext->Nat),(∃x2:Int,x2=0/\bO ⟨[],[],[x2],[],[],[],[]⟩)/\
 ∀x2:Int,bO ⟨[],[],[x2],[],[],[],[]⟩->
 bf (x2<x0) (
 ay (0<=x2) (
 ay (0<=x1) (
 bf (x1<=x2) (
 al (.int .i64 1) [bQ v0 x0 A0,bQ v1 x1 A1]) (
 ay (x2<x1) (
 bf ((A0 (ag x2))<(A1 (ag x2))) (
 al (.int .i64 (-1)) [bQ v0 x0 A0,bQ v1 x1 A1]) (
 bf ((A1 (ag x2))<(A0 (ag x2))) (
 al (.int .i64 1) [bQ v0 x0 A0,bQ v1 x1 A1]) (
 fj (x2+1) ((
 ∃fk:Int,fk=(x2+1)/\Dn bO dG ⟨[],[],[fk],[],[],[],[]⟩ ⟨[],[],[x2],[],[],[],[]⟩))))))))) (
 ay (0<=x0) (
 ay (0<=x1) (
 bf (x0<x1) (
 al (.int .i64 (-1)) [bQ v0 x0 A0,bQ v1 x1 A1]) (
 al (.int .i64 0) [bQ v0 x0 A0,bQ v1 x1 A1])))))
theorem abP(al:PT)(x0 x1:Int)(A0 A1:Nat->Int)(v0 v1:V1)(h:SN al x0 x1 A0 A1 v0 v1):ao ax8 37 [v0.v,v1.v] [bQ v0 x0 A0,bQ v1 x1 A1] al:=
 qv (C:=aly) Vq.akW Vq.afS Vq.aaX ⟨[x0,x1],[A0,A1],[],[],[v0,v1],[],[],[]⟩ 2 Tryz.func37 (by kernel_rfl) h
def SO(al:PT)(x0 x1 x2 x3 x4 x5 x6 x7 x8 x9 bA bH bR bN dP b_ dD cq dt cO d_ gN eT ff e9:Int)(A0 A1 A2 A3 A4 A5 A6 A7 A8 A9 dM dx dC fH gw gx fw eY eQ fb fg fR:Nat->Int)(v0 v1 v2 v3 v4 v5 v6:V1)(p0:HP):Prop:=
 ∀_:Nat,bf ((((x3<0)\/(2147483647<x3))\/(bH<(-1)))\/(254<bH)) (
 al (.bool false) []) (
 Cl 15 [yW A0 x0 x1 x2 A1 A2 v0 x3 v1 x4 x5 A3 v2 x6 A4 (!(x7==0)) x8 x9 bA A5 A6 A7 v3 bH v4 bR bN dP b_ dD cq v5 v6,.nilIface] [m8 v0 dt A8 A9,m9 v1 cO dM dx dC,mu v2 d_ fH,bQ v3 gN gw,mr v4 eT gx fw,bQ v5 ff eY,qw v6 e9 eQ fb fg fR,p0] <| hd9 λ_ ki=>
 al (.bool (ki==0)) [])
theorem abQ(al:PT)(x0 x1 x2 x3 x4 x5 x6 x7 x8 x9 bA bH bR bN dP b_ dD cq dt cO d_ gN eT ff e9:Int)(A0 A1 A2 A3 A4 A5 A6 A7 A8 A9 dM dx dC fH gw gx fw eY eQ fb fg fR:Nat->Int)(v0 v1 v2 v3 v4 v5 v6:V1)(p0:HP)(h:SO al x0 x1 x2 x3 x4 x5 x6 x7 x8 x9 bA bH bR bN dP b_ dD cq dt cO d_ gN eT ff e9 A0 A1 A2 A3 A4 A5 A6 A7 A8 A9 dM dx dC fH gw gx fw eY eQ fb fg fR v0 v1 v2 v3 v4 v5 v6 p0):ao ax8 10 [yW A0 x0 x1 x2 A1 A2 v0 x3 v1 x4 x5 A3 v2 x6 A4 (!(x7==0)) x8 x9 bA A5 A6 A7 v3 bH v4 bR bN dP b_ dD cq v5 v6] [m8 v0 dt A8 A9,m9 v1 cO dM dx dC,mu v2 d_ fH,bQ v3 gN gw,mr v4 eT gx fw,bQ v5 ff eY,qw v6 e9 eQ fb fg fR,p0] al:=
 qv (C:=alz) Vq.akX Vq.LU Vq.uS ⟨[x0,x1,x2,x3,x4,x5,x6,x7,x8,x9,bA,bH,bR,bN,dP,b_,dD,cq,dt,cO,d_,gN,eT,ff,e9],[A0,A1,A2,A3,A4,A5,A6,A7,A8,A9,dM,dx,dC,fH,gw,gx,fw,eY,eQ,fb,fg,fR],[],[],[v0,v1,v2,v3,v4,v5,v6],[],[p0],[]⟩ 0 Tryz.func10 (by kernel_rfl) h
open Go.RX Go.Proofs
set_option maxRecDepth 100000
def Mc(al:PT)(x0:Int)(A0 _:Nat->Int)(v0:V1):Prop:=
 ∀b0:Nat,ay (0<=x0) (
 ∃(bO:Ext->Prop) (dG:Ext->Nat),(∃(v2:V1) (x1 x2:Int) (A2:Nat->Int),x1=0/\v2=(⟨.slice none 0 0,rfl⟩:V1)/\v2=(⟨.slice none 0 0,rfl⟩:V1)/\x2=0/\cG (x2*16) A2 (λ_=>0)/\bO ⟨[],[v2],[x1,x2],[A2],[],[],[]⟩)/\
 ∀(v2:V1) (x1 x2:Int) (A2:Nat->Int),bO ⟨[],[v2],[x1,x2],[A2],[],[],[]⟩->
 bf (x1<x0) (
 ay (0<=x1) (
 ∀_ _ _ _ _:Nat,ay (0<=x2) (
 ∃(uu:Ext->Prop) (Jn:Ext->Nat),(∃x3:Int,x3=0/\uu ⟨[],[],[x3],[],[],[],[]⟩)/\
 ∀x3:Int,uu ⟨[],[],[x3],[],[],[],[]⟩->
 bf (x3<x2) (
 ay (0<=x3) (
 bf (∀j,j<16->(bx A0 (ag (x1*16))) j=(bx A2 (ag (x3*16))) j) (
 fj (x1+1) ((
 ay (0<=x2) (
 ∀v3:V1,∃(h_:V1) (jd fk:Int) (y7:Nat->Int),jd=(x1+1)/\h_=v3/\h_=v3/\fk=x2/\cG (fk*16) y7 A2/\Dn bO dG ⟨[],[h_],[jd,fk],[y7],[],[],[]⟩ ⟨[],[v2],[x1,x2],[A2],[],[],[]⟩)))) (
 fj (x3+1) ((
 ∃qJ:Int,qJ=(x3+1)/\Dn uu Jn ⟨[],[],[qJ],[],[],[],[]⟩ ⟨[],[],[x3],[],[],[],[]⟩))))) (
 ∀_:Nat,ay (0<=x2) (
 j8 ((x2+1)*16) (
 ∀_:V1,ay (0<=(x2+1)) (
 fj ((x2+1) - 256) ((
 bf (0<((x2+1) - 256)) (
 ay (0<=((x2+1) - 256)) (
 ay (((x2+1) - 256)<=(x2+1)) (
 bf (0=((x2+1) - 256)) (
 fj (x1+1) ((
 ay (0<=(x2+1)) (
 ∀v4:V1,∃(h_:V1) (jd fk:Int) (y7:Nat->Int),jd=(x1+1)/\h_=v4/\h_=v4/\fk=(x2+1)/\cG (fk*16) y7 (bV A2 (ag (x2*16)) 16 (bx A0 (ag (x1*16))))/\Dn bO dG ⟨[],[h_],[jd,fk],[y7],[],[],[]⟩ ⟨[],[v2],[x1,x2],[A2],[],[],[]⟩)))) (
 ay (0<=((x2+1) - ((x2+1) - 256))) (
 ay (0<=((x2+1) - ((x2+1) - 256))) (
 ay (((x2+1) - ((x2+1) - 256))<=(x2+1)) (
 ay (0<=((x2+1) - ((x2+1) - ((x2+1) - 256)))) (
 fj (x1+1) ((
 ay (0<=((x2+1) - ((x2+1) - 256))) (
 ay (((x2+1) - ((x2+1) - 256))<=(x2+1)) (
 ay (0<=((x2+1) - ((x2+1) - 256))) (
 ∀v4:V1,∃(h_:V1) (jd fk:Int) (y7:Nat->Int),jd=(x1+1)/\h_=v4/\h_=v4/\fk=((x2+1) - ((x2+1) - 256))/\cG (fk*16) y7 (bV (bV (bV A2 (ag (x2*16)) 16 (bx A0 (ag (x1*16)))) 0 (ag (((x2+1) - ((x2+1) - 256))*16)) (bx (bV A2 (ag (x2*16)) 16 (bx A0 (ag (x1*16)))) (ag (((x2+1) - 256)*16)))) (ag (((x2+1) - ((x2+1) - 256))*16)) (ag (((x2+1) - ((x2+1) - ((x2+1) - 256)))*16)) (λ_=>0))/\Dn bO dG ⟨[],[h_],[jd,fk],[y7],[],[],[]⟩ ⟨[],[v2],[x1,x2],[A2],[],[],[]⟩))))))))))))) (
 fj (x1+1) ((
 ay (0<=(x2+1)) (
 ∀v4:V1,∃(h_:V1) (jd fk:Int) (y7:Nat->Int),jd=(x1+1)/\h_=v4/\h_=v4/\fk=(x2+1)/\cG (fk*16) y7 (bV A2 (ag (x2*16)) 16 (bx A0 (ag (x1*16))))/\Dn bO dG ⟨[],[h_],[jd,fk],[y7],[],[],[]⟩ ⟨[],[v2],[x1,x2],[A2],[],[],[]⟩))))))))))))) (
 al (pp b0) [mu v0 x0 A0]))
theorem Xo(al:PT)(x0:Int)(A0 A1:Nat->Int)(v0:V1)(h:Mc al x0 A0 A1 v0):ao ax8 70 [.int .i64 256,v0.v] [mu v0 x0 A0] al:=
 qv (C:=cxO) Vo.akP Vo.hpI Vo.Og ⟨[x0],[A0,A1],[],[],[v0],[],[],[]⟩ 1 Tryz.func70 (by kernel_rfl) h
def Md(al:PT)(x0:Int)(A0 A1:Nat->Int)(v0:V1):Prop:=
 ∀b0:Nat,ay (0<=x0) (
 ∃(bO:Ext->Prop) (dG:Ext->Nat),(∃(v2:V1) (x1 x2:Int) (A2 A3:Nat->Int),x1=0/\v2=(⟨.slice none 0 0,rfl⟩:V1)/\v2=(⟨.slice none 0 0,rfl⟩:V1)/\x2=0/\cG x2 A2 (λ_=>0)/\cG x2 A3 (λ_=>0)/\bO ⟨[],[v2],[x1,x2],[A2,A3],[],[],[]⟩)/\
 ∀(v2:V1) (x1 x2:Int) (A2 A3:Nat->Int),bO ⟨[],[v2],[x1,x2],[A2,A3],[],[],[]⟩->
 bf (x1<x0) (
 ay (0<=x1) (
 ∀_ _ _ _ _:Nat,ay (0<=x2) (
 ∃(uu:Ext->Prop) (Jn:Ext->Nat),(∃x3:Int,x3=0/\uu ⟨[],[],[x3],[],[],[],[]⟩)/\
 ∀x3:Int,uu ⟨[],[],[x3],[],[],[],[]⟩->
 bf (x3<x2) (
 ay (0<=x3) (
 bf (((A0 (ag x1))=(A2 (ag x3)))/\((A1 (ag x1))=(A3 (ag x3)))) (
 fj (x1+1) ((
 ay (0<=x2) (
 ∀v3:V1,∃(h_:V1) (jd fk:Int) (y7 mD:Nat->Int),jd=(x1+1)/\h_=v3/\h_=v3/\fk=x2/\cG fk y7 A2/\cG fk mD A3/\Dn bO dG ⟨[],[h_],[jd,fk],[y7,mD],[],[],[]⟩ ⟨[],[v2],[x1,x2],[A2,A3],[],[],[]⟩)))) (
 fj (x3+1) ((
 ∃qJ:Int,qJ=(x3+1)/\Dn uu Jn ⟨[],[],[qJ],[],[],[],[]⟩ ⟨[],[],[x3],[],[],[],[]⟩))))) (
 ∀_:Nat,ay (0<=x2) (
 j8 ((x2+1)*2) (
 ∀_:V1,ay (0<=(x2+1)) (
 fj ((x2+1) - 4) ((
 bf (0<((x2+1) - 4)) (
 ay (0<=((x2+1) - 4)) (
 ay (((x2+1) - 4)<=(x2+1)) (
 bf (0=((x2+1) - 4)) (
 fj (x1+1) ((
 ay (0<=(x2+1)) (
 ∀v4:V1,∃(h_:V1) (jd fk:Int) (y7 mD:Nat->Int),jd=(x1+1)/\h_=v4/\h_=v4/\fk=(x2+1)/\cG fk y7 (au A2 (ag x2) (A0 (ag x1)))/\cG fk mD (au A3 (ag x2) (A1 (ag x1)))/\Dn bO dG ⟨[],[h_],[jd,fk],[y7,mD],[],[],[]⟩ ⟨[],[v2],[x1,x2],[A2,A3],[],[],[]⟩)))) (
 ay (0<=((x2+1) - ((x2+1) - 4))) (
 ay (0<=((x2+1) - ((x2+1) - 4))) (
 ay (((x2+1) - ((x2+1) - 4))<=(x2+1)) (
 ay (0<=((x2+1) - ((x2+1) - ((x2+1) - 4)))) (
 fj (x1+1) ((
 ay (0<=((x2+1) - ((x2+1) - 4))) (
 ay (((x2+1) - ((x2+1) - 4))<=(x2+1)) (
 ay (0<=((x2+1) - ((x2+1) - 4))) (
 ∀v4:V1,∃(h_:V1) (jd fk:Int) (y7 mD:Nat->Int),jd=(x1+1)/\h_=v4/\h_=v4/\fk=((x2+1) - ((x2+1) - 4))/\cG fk y7 (bV (bV (au A2 (ag x2) (A0 (ag x1))) 0 (ag ((x2+1) - ((x2+1) - 4))) (bx (au A2 (ag x2) (A0 (ag x1))) (ag ((x2+1) - 4)))) (ag ((x2+1) - ((x2+1) - 4))) (ag ((x2+1) - ((x2+1) - ((x2+1) - 4)))) (λ_=>0))/\cG fk mD (bV (bV (au A3 (ag x2) (A1 (ag x1))) 0 (ag ((x2+1) - ((x2+1) - 4))) (bx (au A3 (ag x2) (A1 (ag x1))) (ag ((x2+1) - 4)))) (ag ((x2+1) - ((x2+1) - 4))) (ag ((x2+1) - ((x2+1) - ((x2+1) - 4)))) (λ_=>0))/\Dn bO dG ⟨[],[h_],[jd,fk],[y7,mD],[],[],[]⟩ ⟨[],[v2],[x1,x2],[A2,A3],[],[],[]⟩))))))))))))) (
 fj (x1+1) ((
 ay (0<=(x2+1)) (
 ∀v4:V1,∃(h_:V1) (jd fk:Int) (y7 mD:Nat->Int),jd=(x1+1)/\h_=v4/\h_=v4/\fk=(x2+1)/\cG fk y7 (au A2 (ag x2) (A0 (ag x1)))/\cG fk mD (au A3 (ag x2) (A1 (ag x1)))/\Dn bO dG ⟨[],[h_],[jd,fk],[y7,mD],[],[],[]⟩ ⟨[],[v2],[x1,x2],[A2,A3],[],[],[]⟩))))))))))))) (
 al (pp b0) [mr v0 x0 A0 A1]))
theorem Xp(al:PT)(x0:Int)(A0 A1:Nat->Int)(v0:V1)(h:Md al x0 A0 A1 v0):ao ax8 72 [.int .i64 4,v0.v] [mr v0 x0 A0 A1] al:=
 qv (C:=cxO) Vo.akQ Vo.hpD Vo.Og ⟨[x0],[A0,A1],[],[],[v0],[],[],[]⟩ 1 Tryz.func72 (by kernel_rfl) h
def SP(al:PT)(x0 x1 x2:Int)(A0:Nat->Int)(v0:V1):Prop:=
 ay (0<=x2) (
 bf (((8<=x0)\/(x2<1))\/(4<x2)) (
 al (.tuple #[.pointer none,.int .i64 2]) []) (
 ∀b0:Nat,∃(Kh:Ext->Prop) (abR:Ext->Nat),(∃(v2:V1) (x3 x4:Int) (A1:Nat->Int),x3=0/\v2=(⟨.slice none 0 0,rfl⟩:V1)/\v2=(⟨.slice none 0 0,rfl⟩:V1)/\x4=0/\cG x4 A1 (λ_=>0)/\Kh ⟨[],[v2],[x3,x4],[A1],[],[],[]⟩)/\
 ∀(v2:V1) (x3 x4:Int) (A1:Nat->Int),Kh ⟨[],[v2],[x3,x4],[A1],[],[],[]⟩->
 bf (x3<x2) (
 ∀_:Nat,ay (0<=x4) (
 j8 ((x4+1)*1) (
 ∀v3:V1,fj (x3+1) ((
 ∃(h_:V1) (qJ xl:Int) (YA:Nat->Int),qJ=(x3+1)/\h_=v3/\h_=v3/\xl=(x4+1)/\cG xl YA (au A1 (ag x4) 1)/\Dn Kh abR ⟨[],[h_],[qJ,xl],[YA],[],[],[]⟩ ⟨[],[v2],[x3,x4],[A1],[],[],[]⟩))))) (
 ay ((x1<(-1))\/(0<=x2)) (
 bf ((x1<(-1))\/(x2<=x1)) (
 al (.tuple #[.pointer none,.int .i64 2]) []) (
 ay (0<=x2) (
 ∃(kz:Ext->Prop) (tO:Ext->Nat),(∃x5:Int,x5=0/\kz ⟨[],[],[x5],[],[],[],[]⟩)/\
 ∀x5:Int,kz ⟨[],[],[x5],[],[],[],[]⟩->
 bf (x5<x2) (
 ay (0<=x5) (
 bf (((A0 (ag x5))<1)\/(4<(A0 (ag x5)))) (
 al (.tuple #[.pointer none,.int .i64 2]) []) (
 fj (x5+1) ((
 ∃xm:Int,xm=(x5+1)/\Dn kz tO ⟨[],[],[xm],[],[],[],[]⟩ ⟨[],[],[x5],[],[],[],[]⟩))))) (
 Cl 117 [v0.v] [bQ v0 x2 A0] λx hs l=> ∃v3:V1,x=v3.v/\hs=l/\
 al (.tuple #[pp b0,.int .i64 0]) [])))))))
theorem abS(al:PT)(x0 x1 x2:Int)(A0:Nat->Int)(v0:V1)(h:SP al x0 x1 x2 A0 v0):ao ax8 71 [.int .u8 x0,v0.v,.int .i64 x1] [bQ v0 x2 A0] al:=
 qv (C:=afQ) Vo.akR Vo.afO Vo.aaP ⟨[x0,x1,x2],[A0],[],[],[v0],[],[],[]⟩ 0 Tryz.func71 (by kernel_rfl) h
def SQ(al:PT)(x0:Int)(A0:Nat->Int)(v0:V1):Prop:=
 bf (yB v0.v=true) (
 al (.slice none 0 0) [bQ v0 x0 A0]) (
 ∀_:V1,ay (0<=x0) (
 ay (0<=x0) (
 j8 x0 (
 ∀v2:V1,al (v2.v) [bQ v0 x0 A0]))))
theorem abT(al:PT)(x0:Int)(A0:Nat->Int)(v0:V1)(h:SQ al x0 A0 v0):ao ax8 117 [v0.v] [bQ v0 x0 A0] al:=
 qv (C:=afQ) [.vv 0] [.cF false 0 5 1 (.var 0) [⟨.int .u8,1,.cM 0⟩]] ⟨0,1,1,1,0,0,0⟩ ⟨[x0],[A0],[],[],[v0],[],[],[]⟩ 1 Tryz.func117 (by kernel_rfl) h
def SR(al:PT)(_ _ x2 _ x4 _ _ x7 _ _ _ _ _ _ dP b_ dD:Int)(_ _ _ _ _ A5 A6 A7 A8:Nat->Int)(v0 v1 v2:V1):Prop:=
 ∀_ _ _ _ b4:Nat,Cl 70 [.int .i64 256,v0.v] [mu v0 dP A5] λx hs l=> ∃cq:Int,x=(dr cq)/\hs=l/\
 ay (0<=dP) (
 bf ((256<dP)\/(4<x2)) (
 al (.tuple #[.pointer none,.int .i64 2]) []) (
 bf (x2=1) (
 Cl 71 [.int .u8 x4,v1.v,.int .i64 x7] [bQ v1 b_ A6] <| hd9 λ_ cO=>
 ay ((¬(cO=0))\/(0<=dD)) (
 bf ((¬(cO=0))\/(4<dD)) (
 al (.tuple #[.pointer none,.int .i64 2]) []) (
 Cl 72 [.int .i64 4,v2.v] [mr v2 dD A7 A8] λx hs l=> ∃d_:Int,x=(dr d_)/\hs=l/\
 al (.tuple #[pp b4,.int .i64 0]) []))) (
 al (.tuple #[pp b4,.int .i64 0]) [])))
theorem abU(al:PT)(x0 x1 x2 x3 x4 x5 x6 x7 x8 x9 bA bH bR bN dP b_ dD:Int)(A0 A1 A2 A3 A4 A5 A6 A7 A8:Nat->Int)(v0 v1 v2:V1)(h:SR al x0 x1 x2 x3 x4 x5 x6 x7 x8 x9 bA bH bR bN dP b_ dD A0 A1 A2 A3 A4 A5 A6 A7 A8 v0 v1 v2):ao ax8 35 [.agg (.int .u8 x0::(.int .u8 x1::(axQ (aj .u8 8 A0) (v0.v::(.int .u8 x2::(axQ (aj .u8 16 A1) (.bool (!(x3==0))::(.int .u8 x4::(.int .u8 x5::(.int .u8 x6::(axQ (aj .u8 32 A2) (axQ (aj .u8 32 A3) (axQ (aj .u8 32 A4) ([v1.v,.int .i64 x7,v2.v,.int .u64 x8,.int .u64 x9,.int .u64 bA,.int .u64 bH,.int .u64 bR,.int .u32 bN])))))))))))))).toArray] [mu v0 dP A5,bQ v1 b_ A6,mr v2 dD A7 A8] al:=
 qv (C:=akT) Vo.WI Vo.LS Vo.J1 ⟨[x0,x1,x2,x3,x4,x5,x6,x7,x8,x9,bA,bH,bR,bN,dP,b_,dD],[A0,A1,A2,A3,A4,A5,A6,A7,A8],[],[],[v0,v1,v2],[],[],[]⟩ 0 Tryz.func35 (by kernel_rfl) h
open Go.RX Go.Proofs
set_option maxRecDepth 100000
def SS(al:PT)(x0:Int)(A0:Nat->Int)(v0:V1):Prop:=
 ∀(_ _:Nat) (_:V1),ay (0<=x0) (
 ay (0<=x0) (
 j8 x0 (
 ∀(_:V1) (_:Nat),bf (x0<16) (
 al (.tuple #[Vu,.int .i64 9]) [bQ v0 x0 A0]) (
 ay (16<=x0) (
 ay (0<=(x0 - 16)) (
 bf ((x0 - 16)<1) (
 al (.tuple #[Vu,.int .i64 9]) [bQ v0 x0 A0]) (
 ay (17<=x0) (
 ay (1<=(x0 - 16)) (
 ay ((16+(x0 - 16))<=x0) (
 ay (16<x0) (
 ay (0<=((x0 - 16) - 1)) (
 bf (((x0 - 16) - 1)<1) (
 al (.tuple #[Vu,.int .i64 9]) [bQ v0 x0 A0]) (
 ay (18<=x0) (
 ay (1<=((x0 - 16) - 1)) (
 ay ((17+((x0 - 16) - 1))<=x0) (
 ay (17<x0) (
 bf (1<(ar .cU .u64 0 (ae .u64 (A0 17)))) (
 al (.tuple #[Vu,.int .i64 9]) [bQ v0 x0 A0]) (
 ay (0<=(((x0 - 16) - 1) - 1)) (
 bf ((((x0 - 16) - 1) - 1)<1) (
 al (.tuple #[Vu,.int .i64 9]) [bQ v0 x0 A0]) (
 ay (19<=x0) (
 ay (1<=(((x0 - 16) - 1) - 1)) (
 ay ((18+(((x0 - 16) - 1) - 1))<=x0) (
 ay (18<x0) (
 ay (0<=((((x0 - 16) - 1) - 1) - 1)) (
 bf (((((x0 - 16) - 1) - 1) - 1)<8) (
 al (.tuple #[Vu,.int .i64 9]) [bQ v0 x0 A0]) (
 ay (27<=x0) (
 ay (8<=((((x0 - 16) - 1) - 1) - 1)) (
 ay ((19+((((x0 - 16) - 1) - 1) - 1))<=x0) (
 ay (19<x0) (
 ay (20<x0) (
 ay (21<x0) (
 ay (22<x0) (
 ay (23<x0) (
 ay (24<x0) (
 ay (25<x0) (
 ay (26<x0) (
 ay (0<=(((((x0 - 16) - 1) - 1) - 1) - 8)) (
 bf ((((((x0 - 16) - 1) - 1) - 1) - 8)<8) (
 al (.tuple #[Vu,.int .i64 9]) [bQ v0 x0 A0]) (
 ay (35<=x0) (
 ay (8<=(((((x0 - 16) - 1) - 1) - 1) - 8)) (
 ay ((27+(((((x0 - 16) - 1) - 1) - 1) - 8))<=x0) (
 ay (27<x0) (
 ay (28<x0) (
 ay (29<x0) (
 ay (30<x0) (
 ay (31<x0) (
 ay (32<x0) (
 ay (33<x0) (
 ay (34<x0) (
 ay (0<=((((((x0 - 16) - 1) - 1) - 1) - 8) - 8)) (
 bf (((((((x0 - 16) - 1) - 1) - 1) - 8) - 8)<8) (
 al (.tuple #[Vu,.int .i64 9]) [bQ v0 x0 A0]) (
 ay (43<=x0) (
 ay (8<=((((((x0 - 16) - 1) - 1) - 1) - 8) - 8)) (
 ay ((35+((((((x0 - 16) - 1) - 1) - 1) - 8) - 8))<=x0) (
 ay (35<x0) (
 ay (36<x0) (
 ay (37<x0) (
 ay (38<x0) (
 ay (39<x0) (
 ay (40<x0) (
 ay (41<x0) (
 ay (42<x0) (
 ay (0<=(((((((x0 - 16) - 1) - 1) - 1) - 8) - 8) - 8)) (
 bf (0<(((((((x0 - 16) - 1) - 1) - 1) - 8) - 8) - 8)) (
 al (.tuple #[Vu,.int .i64 9]) [bQ v0 x0 A0]) (
 ∀_:Nat,bf (¬((((((ae .u8 (ar .cU .u64 0 (ae .u64 (A0 16))))<8)/\(1<=(ae .u8 (ar .cU .u64 0 (ae .u64 (A0 18))))))/\((ae .u8 (ar .cU .u64 0 (ae .u64 (A0 18))))<=7))/\((ar .cU .u64 (ar .shl .u64 (ar .cU .u64 (ar .shl .u64 (ar .cU .u64 (ar .shl .u64 (ar .cU .u64 (ar .shl .u64 (ar .cU .u64 (ar .shl .u64 (ar .cU .u64 (ar .shl .u64 (ar .cU .u64 (ar .shl .u64 (ar .cU .u64 0 (ae .u64 (A0 19))) 8) (ae .u64 (A0 20))) 8) (ae .u64 (A0 21))) 8) (ae .u64 (A0 22))) 8) (ae .u64 (A0 23))) 8) (ae .u64 (A0 24))) 8) (ae .u64 (A0 25))) 8) (ae .u64 (A0 26)))<=(ar .cU .u64 (ar .shl .u64 (ar .cU .u64 (ar .shl .u64 (ar .cU .u64 (ar .shl .u64 (ar .cU .u64 (ar .shl .u64 (ar .cU .u64 (ar .shl .u64 (ar .cU .u64 (ar .shl .u64 (ar .cU .u64 (ar .shl .u64 (ar .cU .u64 0 (ae .u64 (A0 35))) 8) (ae .u64 (A0 36))) 8) (ae .u64 (A0 37))) 8) (ae .u64 (A0 38))) 8) (ae .u64 (A0 39))) 8) (ae .u64 (A0 40))) 8) (ae .u64 (A0 41))) 8) (ae .u64 (A0 42)))))/\(((ar .cU .u64 (ar .shl .u64 (ar .cU .u64 (ar .shl .u64 (ar .cU .u64 (ar .shl .u64 (ar .cU .u64 (ar .shl .u64 (ar .cU .u64 (ar .shl .u64 (ar .cU .u64 (ar .shl .u64 (ar .cU .u64 (ar .shl .u64 (ar .cU .u64 0 (ae .u64 (A0 27))) 8) (ae .u64 (A0 28))) 8) (ae .u64 (A0 29))) 8) (ae .u64 (A0 30))) 8) (ae .u64 (A0 31))) 8) (ae .u64 (A0 32))) 8) (ae .u64 (A0 33))) 8) (ae .u64 (A0 34)))=0)\/(((ar .cU .u64 (ar .shl .u64 (ar .cU .u64 (ar .shl .u64 (ar .cU .u64 (ar .shl .u64 (ar .cU .u64 (ar .shl .u64 (ar .cU .u64 (ar .shl .u64 (ar .cU .u64 (ar .shl .u64 (ar .cU .u64 (ar .shl .u64 (ar .cU .u64 0 (ae .u64 (A0 19))) 8) (ae .u64 (A0 20))) 8) (ae .u64 (A0 21))) 8) (ae .u64 (A0 22))) 8) (ae .u64 (A0 23))) 8) (ae .u64 (A0 24))) 8) (ae .u64 (A0 25))) 8) (ae .u64 (A0 26)))<=(ar .cU .u64 (ar .shl .u64 (ar .cU .u64 (ar .shl .u64 (ar .cU .u64 (ar .shl .u64 (ar .cU .u64 (ar .shl .u64 (ar .cU .u64 (ar .shl .u64 (ar .cU .u64 (ar .shl .u64 (ar .cU .u64 (ar .shl .u64 (ar .cU .u64 0 (ae .u64 (A0 27))) 8) (ae .u64 (A0 28))) 8) (ae .u64 (A0 29))) 8) (ae .u64 (A0 30))) 8) (ae .u64 (A0 31))) 8) (ae .u64 (A0 32))) 8) (ae .u64 (A0 33))) 8) (ae .u64 (A0 34))))/\((ar .cU .u64 (ar .shl .u64 (ar .cU .u64 (ar .shl .u64 (ar .cU .u64 (ar .shl .u64 (ar .cU .u64 (ar .shl .u64 (ar .cU .u64 (ar .shl .u64 (ar .cU .u64 (ar .shl .u64 (ar .cU .u64 (ar .shl .u64 (ar .cU .u64 0 (ae .u64 (A0 27))) 8) (ae .u64 (A0 28))) 8) (ae .u64 (A0 29))) 8) (ae .u64 (A0 30))) 8) (ae .u64 (A0 31))) 8) (ae .u64 (A0 32))) 8) (ae .u64 (A0 33))) 8) (ae .u64 (A0 34)))<=(ar .cU .u64 (ar .shl .u64 (ar .cU .u64 (ar .shl .u64 (ar .cU .u64 (ar .shl .u64 (ar .cU .u64 (ar .shl .u64 (ar .cU .u64 (ar .shl .u64 (ar .cU .u64 (ar .shl .u64 (ar .cU .u64 (ar .shl .u64 (ar .cU .u64 0 (ae .u64 (A0 35))) 8) (ae .u64 (A0 36))) 8) (ae .u64 (A0 37))) 8) (ae .u64 (A0 38))) 8) (ae .u64 (A0 39))) 8) (ae .u64 (A0 40))) 8) (ae .u64 (A0 41))) 8) (ae .u64 (A0 42)))))))) (
 al (.tuple #[Vu,.int .i64 9]) [bQ v0 x0 A0]) (
 al (.tuple #[.agg (axQ (aj .u8 16 A0) ([.int .u8 (ae .u8 (ar .cU .u64 0 (ae .u64 (A0 16)))),.bool ((ar .cU .u64 0 (ae .u64 (A0 17)))==1),.int .u8 (ae .u8 (ar .cU .u64 0 (ae .u64 (A0 18)))),.int .u64 (ar .cU .u64 (ar .shl .u64 (ar .cU .u64 (ar .shl .u64 (ar .cU .u64 (ar .shl .u64 (ar .cU .u64 (ar .shl .u64 (ar .cU .u64 (ar .shl .u64 (ar .cU .u64 (ar .shl .u64 (ar .cU .u64 (ar .shl .u64 (ar .cU .u64 0 (ae .u64 (A0 19))) 8) (ae .u64 (A0 20))) 8) (ae .u64 (A0 21))) 8) (ae .u64 (A0 22))) 8) (ae .u64 (A0 23))) 8) (ae .u64 (A0 24))) 8) (ae .u64 (A0 25))) 8) (ae .u64 (A0 26))),.int .u64 (ar .cU .u64 (ar .shl .u64 (ar .cU .u64 (ar .shl .u64 (ar .cU .u64 (ar .shl .u64 (ar .cU .u64 (ar .shl .u64 (ar .cU .u64 (ar .shl .u64 (ar .cU .u64 (ar .shl .u64 (ar .cU .u64 (ar .shl .u64 (ar .cU .u64 0 (ae .u64 (A0 27))) 8) (ae .u64 (A0 28))) 8) (ae .u64 (A0 29))) 8) (ae .u64 (A0 30))) 8) (ae .u64 (A0 31))) 8) (ae .u64 (A0 32))) 8) (ae .u64 (A0 33))) 8) (ae .u64 (A0 34))),.int .u64 (ar .cU .u64 (ar .shl .u64 (ar .cU .u64 (ar .shl .u64 (ar .cU .u64 (ar .shl .u64 (ar .cU .u64 (ar .shl .u64 (ar .cU .u64 (ar .shl .u64 (ar .cU .u64 (ar .shl .u64 (ar .cU .u64 (ar .shl .u64 (ar .cU .u64 0 (ae .u64 (A0 35))) 8) (ae .u64 (A0 36))) 8) (ae .u64 (A0 37))) 8) (ae .u64 (A0 38))) 8) (ae .u64 (A0 39))) 8) (ae .u64 (A0 40))) 8) (ae .u64 (A0 41))) 8) (ae .u64 (A0 42)))])).toArray,.int .i64 0]) [bQ v0 x0 A0]))))))))))))))))))))))))))))))))))))))))))))))))))))))))))))))))))
theorem abV(al:PT)(x0:Int)(A0:Nat->Int)(v0:V1)(h:SS al x0 A0 v0):ao ax8 75 [v0.v] [bQ v0 x0 A0] al:=
 qv (C:=cx) Vp.afP Vp.Zd Vp.R8 ⟨[x0],[A0],[],[],[v0],[],[],[]⟩ 1 Tryz.func75 (by kernel_rfl) h
def SU(al:PT)(x0:Int)(A0:Nat->Int)(v0:V1):Prop:=
 ∀_ _:Nat,ay (0<=x0) (
 bf (176128<x0) (
 al (.tuple #[.pointer none,.int .i64 3]) []) (
 ∀_ b3 _ _ _ _ _:Nat,∀(_ _:Nat) (_:Loop),∃(Kh:Ext->Prop) (abR:Ext->Nat),(∃(v2:V1) (x1 x2:Int) (A1 A2 A3 A4 A5 A6 A7 A8:Nat->Int),x1=0/\v2=(⟨.slice none 0 0,rfl⟩:V1)/\(A1=(λ_=>0))/\v2=(⟨.slice none 0 0,rfl⟩:V1)/\x2=0/\cG (x2*16) A2 (λ_=>0)/\cG x2 A3 (λ_=>0)/\cG x2 A4 (λ_=>0)/\cG x2 A5 (λ_=>0)/\cG x2 A6 (λ_=>0)/\cG x2 A7 (λ_=>0)/\cG x2 A8 (λ_=>0)/\Kh ⟨[],[v2],[x1,x2],[A1,A2,A3,A4,A5,A6,A7,A8],[],[],[]⟩)/\
 ∀(v2:V1) (x1 x2:Int) (A1 A2 A3 A4 A5 A6 A7 A8:Nat->Int),Kh ⟨[],[v2],[x1,x2],[A1,A2,A3,A4,A5,A6,A7,A8],[],[],[]⟩->
 ay (0<=x0) (
 bf (x1<x0) (
 ay (0<=x1) (
 ay (x1<=x0) (
 ay (0<=(x0 - x1)) (
 fj (x1+(ar .jl .i64 43 (x0 - x1))) ((
 ay (x1<=(x1+(ar .jl .i64 43 (x0 - x1)))) (
 ay ((x1+(ar .jl .i64 43 (x0 - x1)))<=x0) (
 Cl 75 [(aK 1 v0.v (ag x1) (ag (x1+(ar .jl .i64 43 (x0 - x1)))) (some (ag (x1+(ar .jl .i64 43 (x0 - x1))))))] [bQ v0 x0 A0] λx hs l=> ∃(x3 x4 x5 x6 x7 x8 x9:Int) (A9:Nat->Int),x= .tuple #[.agg (axQ (aj .u8 16 A9) ([.int .u8 x3,.bool (!(x4==0)),.int .u8 x5,.int .u64 x6,.int .u64 x7,.int .u64 x8])).toArray,.int .i64 x9]/\hs=l/\
 ∀_ _:Nat,bf ((¬(x9=0))\/((A1 (ag ((aT ((List.range 16).map A9):Nat):Int)))≠0)) (
 al (.tuple #[.pointer none,.int .i64 9]) []) (
 ∀_:Nat,ay (0<=x2) (
 j8 ((x2+1)*48) (
 ∀v3:V1,fj (x1+43) ((
 ∃(h_:V1) (jd fk:Int) (YA y7 mD Ax Dq HN OJ Zm:Nat->Int),jd=(x1+43)/\h_=v3/\(YA=(au (au A1 0 (((A1 0)+1) - (ar .jl .i64 (A1 (ag ((aT ((List.range 16).map A9):Nat):Int))) 1))) (ag ((aT ((List.range 16).map A9):Nat):Int)) 1))/\h_=v3/\fk=(x2+1)/\cG (fk*16) y7 (bV A2 (ag (x2*16)) 16 A9)/\cG fk mD (au A3 (ag x2) x3)/\cG fk Ax (au A4 (ag x2) x4)/\cG fk Dq (au A5 (ag x2) x5)/\cG fk HN (au A6 (ag x2) x6)/\cG fk OJ (au A7 (ag x2) x7)/\cG fk Zm (au A8 (ag x2) x8)/\Dn Kh abR ⟨[],[h_],[jd,fk],[YA,y7,mD,Ax,Dq,HN,OJ,Zm],[],[],[]⟩ ⟨[],[v2],[x1,x2],[A1,A2,A3,A4,A5,A6,A7,A8],[],[],[]⟩))))))))))))) (
 al (.tuple #[pp b3,.int .i64 0]) []))))
theorem abW(al:PT)(x0:Int)(A0:Nat->Int)(v0:V1)(h:SU al x0 A0 v0):ao ax8 36 [v0.v] [bQ v0 x0 A0] al:=
 qv (C:=akU) Vp.afP Vp.Zd Vp.R8 ⟨[x0],[A0],[],[],[v0],[],[],[]⟩ 0 Tryz.func36 (by kernel_rfl) h
end Go.RX.Vb
