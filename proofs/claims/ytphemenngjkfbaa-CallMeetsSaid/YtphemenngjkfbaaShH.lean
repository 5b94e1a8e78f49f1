/- SHA-256. -/
import Derived.Test.YtphemenngjkfbaaM41
open Go.IntKind renaming i64 → adL, u8 → adG, wrap → ae
open Int renaming toNat → ag
open List renaming append → adH
namespace Go.RX.Sh
open Go.RX Go.Proofs
set_option maxRecDepth 100000
noncomputable def vj:F:=cC cx 129 ([]) ([]) ({b:=0,v:=0,i:=0,a:=0,bo:=0,p:=0,r:=0}) Try.f129
def Bv(_:Program)(ao:Value→List HP→Prop):Prop:=
 ∀b0:Nat,ao (.slice (some ⟨b0,0,none⟩) 80 80) [ak b0 true ([.int .u64 4794697086780616226,.int .u64 8158064640168781261,.int .u64 13096744586834688815,.int .u64 16840607885511220156,.int .u64 4131703408338449720,.int .u64 6480981068601479193,.int .u64 10538285296894168987,.int .u64 12329834152419229976,.int .u64 15566598209576043074,.int .u64 1334009975649890238,.int .u64 2608012711638119052,.int .u64 6128411473006802146,.int .u64 8268148722764581231,.int .u64 9286055187155687089,.int .u64 11230858885718282805,.int .u64 13951009754708518548,.int .u64 16472876342353939154,.int .u64 17275323862435702243,.int .u64 1135362057144423861,.int .u64 2597628984639134821,.int .u64 3308224258029322869,.int .u64 5365058923640841347,.int .u64 6679025012923562964,.int .u64 8573033837759648693,.int .u64 10970295158949994411,.int .u64 12119686244451234320,.int .u64 12683024718118986047,.int .u64 13788192230050041572,.int .u64 14330467153632333762,.int .u64 15395433587784984357,.int .u64 489312712824947311,.int .u64 1452737877330783856,.int .u64 2861767655752347644,.int .u64 3322285676063803686,.int .u64 5560940570517711597,.int .u64 5996557281743188959,.int .u64 7280758554555802590,.int .u64 8532644243296465576,.int .u64 9350256976987008742,.int .u64 10552545826968843579,.int .u64 11727347734174303076,.int .u64 12113106623233404929,.int .u64 14000437183269869457,.int .u64 14369950271660146224,.int .u64 15101387698204529176,.int .u64 15463397548674623760,.int .u64 17586052441742319658,.int .u64 1182934255886127544,.int .u64 1847814050463011016,.int .u64 2177327727835720531,.int .u64 2830643537854262169,.int .u64 3796741975233480872,.int .u64 4115178125766777443,.int .u64 5681478168544905931,.int .u64 6601373596472566643,.int .u64 7507060721942968483,.int .u64 8399075790359081724,.int .u64 8693463985226723168,.int .u64 9568029438360202098,.int .u64 10144078919501101548,.int .u64 10430055236837252648,.int .u64 11840083180663258601,.int .u64 13761210420658862357,.int .u64 14299343276471374635,.int .u64 14566680578165727644,.int .u64 15097957966210449927,.int .u64 16922976911328602910,.int .u64 17689382322260857208,.int .u64 500013540394364858,.int .u64 748580250866718886,.int .u64 1242879168328830382,.int .u64 1977374033974150939,.int .u64 2944078676154940804,.int .u64 3659926193048069267,.int .u64 4368137639120453308,.int .u64 4836135668995329356,.int .u64 5532061633213252278,.int .u64 6448918945643986474,.int .u64 6902733635092675308,.int .u64 7801388544844847127])]
theorem Lf(P:Program)(ao:Value→List HP→Prop)(L:Nat→LC):VC P ao vj {iv:=[],av:=[],bo:=[],bv:=[],vv:=[]} L=Bv P ao:=by kernel_rfl
theorem Hy:cC cx 129 ([]) ([]) ({b:=0,v:=0,i:=0,a:=0,bo:=0,p:=0,r:=0}) Try.f129=vj:=rfl
noncomputable def vl:F:=cC cx 131 ([SV.vv 0,SV.int (adL) (E.lit 32)]) ([Ck.cc true 0 5 1 (E.lit 96) [{ck:=CK.int (adG),w:=1,a:=E.aw 0}]]) ({b:=0,v:=1,i:=0,a:=1,bo:=0,p:=0,r:=0}) Try.f131
def Bw(_:Program)(ao:Value→List HP→Prop)(A0:Nat→Int)(v0:V1):Prop:=
 ∀_:V1,∀_:V1,∀b0:Nat,∀_:V1,∀b1:Nat,∀_:V1,∀b2:Nat,∀_:V1,∀b3:Nat,∀_:V1,∀b4:Nat,∀_:V1,∀b5:Nat,∀_:V1,∀b6:Nat,∀_:V1,∀b7:Nat,∀_:V1,∀b8:Nat,∀_:V1,∀b9:Nat,∀_:V1,∀fh:Nat,∀_:V1,∀kA:Nat,∀_:V1,∀mB:Nat,∀_:V1,∀C2:Nat,∀_:V1,∀uw:Nat,∀_:V1,∀En:Nat,∀_:V1,∀Aq:Nat,∀_:V1,∀ID:Nat,∀_:V1,∀Iw:Nat,∀_:V1,∀Kd:Nat,∀_:V1,∀Eo:Nat,∀_:V1,∀Pc:Nat,∀_:V1,∀Ix:Nat,∀_:V1,∀Pd:Nat,∀_:V1,∀v27:V1,∀Um:V1,ao (Um.v) [aB true 5 1 v0.v 96 (aH 96 [au .u8 1 A0]),aB true 5 1 Um.v 128 (aH 128 [au .u8 1 (aW (aj (aj (aj (aj (aj (aj (aj (aj (aj (aj (aj (aj (aj (aj (aj (aj (aj (aj (aj (aj (aj (aj (aj (aj A0 96 128) 97 0) 98 0) 99 0) 100 0) 101 0) 102 0) 103 0) 104 0) 105 0) 106 0) 107 0) 108 0) 109 0) 110 0) 111 0) 112 0) 113 0) 114 0) 115 0) 116 0) 117 0) 118 0) 119 0) 120 8 (aj (aj (aj (aj (aj (aj (aj (aj (fun _=>0) 7 0) 6 3) 5 0) 4 0) 3 0) 2 0) 1 0) 0 0))]),ak b0 true ([.int .u8 128]),ak b1 true ([.int .u8 0]),ak b2 true ([.int .u8 0]),ak b3 true ([.int .u8 0]),ak b4 true ([.int .u8 0]),ak b5 true ([.int .u8 0]),ak b6 true ([.int .u8 0]),ak b7 true ([.int .u8 0]),ak b8 true ([.int .u8 0]),ak b9 true ([.int .u8 0]),ak fh true ([.int .u8 0]),ak kA true ([.int .u8 0]),ak mB true ([.int .u8 0]),ak C2 true ([.int .u8 0]),ak uw true ([.int .u8 0]),ak En true ([.int .u8 0]),ak Aq true ([.int .u8 0]),ak ID true ([.int .u8 0]),ak Iw true ([.int .u8 0]),ak Kd true ([.int .u8 0]),ak Eo true ([.int .u8 0]),ak Pc true ([.int .u8 0]),ak Ix true ([.int .u8 0]),ak Pd true ([.int .u8 0]),aB true 5 1 v27.v 8 (aH 8 [au .u8 1 (aj (aj (aj (aj (aj (aj (aj (aj (fun _=>0) 7 0) 6 3) 5 0) 4 0) 3 0) 2 0) 1 0) 0 0)])]
theorem Lg(P:Program)(ao:Value→List HP→Prop)(A0:Nat→Int)(v0:V1)(L:Nat→LC):VC P ao vl {iv:=[],av:=[A0],bo:=[],bv:=[],vv:=[v0]} L=Bw P ao A0 v0:=by kernel_rfl
theorem Hz:cC cx 131 ([SV.vv 0,SV.int (adL) (E.lit 32)]) ([Ck.cc true 0 5 1 (E.lit 96) [{ck:=CK.int (adG),w:=1,a:=E.aw 0}]]) ({b:=0,v:=1,i:=0,a:=1,bo:=0,p:=0,r:=0}) Try.f131=vl:=rfl
noncomputable def CC:F:=cC cx 113 ([SV.vv 0,SV.int (adL) (E.lit 32)]) ([Ck.cc true 0 5 1 (E.lit 96) [{ck:=CK.int (adG),w:=1,a:=E.aw 0}]]) ({b:=0,v:=1,i:=0,a:=1,bo:=0,p:=0,r:=0}) Try.f113
def I5(P:Program)(ao:Value→List HP→Prop)(A0:Nat→Int)(v0:V1):Prop:=
 ∀b0:Nat,∃post,aq P 129 [] [] post∧
 ∀x hs,post x hs→∃v1:V1,∃A1:(Nat→Int),x=v1.v∧hs=[aB true 70 1 v1.v 80 (aH 80 [au .u64 1 A1])]∧
 ∃post,aq P 130 [.int .i64 32] [] post∧
 ∀x hs,post x hs→x= .int .u64 4294967296∧hs=[]∧
 ∃post,aq P 131 [v0.v,.int .i64 32] [aB true 5 1 v0.v 96 (aH 96 [au .u8 1 A0])] post∧
 ∀x hs,post x hs→∃v2:V1,∃A2:(Nat→Int),x=v2.v∧hs=[aB true 5 1 v0.v 96 (aH 96 [au .u8 1 A0]),aB true 5 1 v2.v 128 (aH 128 [au .u8 1 A2])]∧
 ∃(fA:Ext→Prop) (iW:Ext→Nat),(∃x0:Int,∃x1:Int,∃x2:Int,∃x3:Int,∃x4:Int,∃x5:Int,∃x6:Int,∃x7:Int,∃x8:Int,x8=0∧x0=1779033703∧x1=3144134277∧x2=1013904242∧x3=2773480762∧x4=1359893119∧x5=2600822924∧x6=528734635∧x7=1541459225∧fA ⟨[],[],[x0,x1,x2,x3,x4,x5,x6,x7,x8],[],[],[],[]⟩)∧
 ∀x0:Int,∀x1:Int,∀x2:Int,∀x3:Int,∀x4:Int,∀x5:Int,∀x6:Int,∀x7:Int,∀x8:Int,fA ⟨[],[],[x0,x1,x2,x3,x4,x5,x6,x7,x8],[],[],[],[]⟩→
 aU (x8<128) (
 ∃(FU:Ext→Prop) (LQ:Ext→Nat),(∃v4:V1,∃x9:Int,∃A3:(Nat→Int),x9=0∧v4=(⟨.slice none 0 0,rfl⟩:V1)∧v4=(⟨.slice none 0 0,rfl⟩:V1)∧x9=0∧(∀j,j<(ag x9)→A3 j=(fun _=>0) j)∧FU ⟨[],[v4],[x9],[A3],[],[],[]⟩)∧
 ∀v4:V1,∀x9:Int,∀A3:(Nat→Int),FU ⟨[],[v4],[x9],[A3],[],[],[]⟩→
 aU (x9<16) (
 aM ((-9223372036854775808)≤(x9*32)) (
 aM ((x9*32)≤9223372036854775807) (
 aM ((-9223372036854775808)≤(x8+(ae .i64 (ax .quo .i64 (x9*32) 8)))) (
 aM ((x8+(ae .i64 (ax .quo .i64 (x9*32) 8)))≤9223372036854775807) (
 aM (0≤(x8+(ae .i64 (ax .quo .i64 (x9*32) 8)))) (
 aM ((x8+(ae .i64 (ax .quo .i64 (x9*32) 8)))<128) (
 aM ((-9223372036854775808)≤((x8+(ae .i64 (ax .quo .i64 (x9*32) 8)))+1)) (
 aM (((x8+(ae .i64 (ax .quo .i64 (x9*32) 8)))+1)≤9223372036854775807) (
 aM (0≤((x8+(ae .i64 (ax .quo .i64 (x9*32) 8)))+1)) (
 aM (((x8+(ae .i64 (ax .quo .i64 (x9*32) 8)))+1)<128) (
 aM ((-9223372036854775808)≤((x8+(ae .i64 (ax .quo .i64 (x9*32) 8)))+2)) (
 aM (((x8+(ae .i64 (ax .quo .i64 (x9*32) 8)))+2)≤9223372036854775807) (
 aM (0≤((x8+(ae .i64 (ax .quo .i64 (x9*32) 8)))+2)) (
 aM (((x8+(ae .i64 (ax .quo .i64 (x9*32) 8)))+2)<128) (
 aM ((-9223372036854775808)≤((x8+(ae .i64 (ax .quo .i64 (x9*32) 8)))+3)) (
 aM (((x8+(ae .i64 (ax .quo .i64 (x9*32) 8)))+3)≤9223372036854775807) (
 aM (0≤((x8+(ae .i64 (ax .quo .i64 (x9*32) 8)))+3)) (
 aM (((x8+(ae .i64 (ax .quo .i64 (x9*32) 8)))+3)<128) (
 ∀_:Nat,aM (0≤x9) (
 aM (((x9+1)*8)≤140737488355328) (
 ∀v5:V1,aM ((-9223372036854775808)≤(x9+1)) (
 aM ((x9+1)≤9223372036854775807) (
 ∃xM:V1,∃kD:Int,∃N7:(Nat→Int),kD=(x9+1)∧xM=v5∧xM=v5∧kD=(x9+1)∧(∀j,j<(ag kD)→N7 j=(aj A3 (ag x9) (ae .u64 ((ae .u64 (256*(ae .u64 ((ae .u64 (256*(ae .u64 ((ae .u64 (256*(ae .u64 (ae .u64 (A2 (ag (x8+(ae .i64 (ax .quo .i64 (x9*32) 8)))))))))+(ae .u64 (A2 (ag ((x8+(ae .i64 (ax .quo .i64 (x9*32) 8)))+1))))))))+(ae .u64 (A2 (ag ((x8+(ae .i64 (ax .quo .i64 (x9*32) 8)))+2))))))))+(ae .u64 (A2 (ag ((x8+(ae .i64 (ax .quo .i64 (x9*32) 8)))+3))))))) j)∧FU ⟨[],[xM],[kD],[N7],[],[],[]⟩∧LQ ⟨[],[xM],[kD],[N7],[],[],[]⟩<LQ ⟨[],[v4],[x9],[A3],[],[],[]⟩))))))))))))))))))))))) (
 ∃(T8:Ext→Prop) (W6:Ext→Nat),(∃v5:V1,∃aG:Int,∃A4:(Nat→Int),aG=16∧v5=v4∧v5=v4∧aG=x9∧(∀j,j<(ag aG)→A4 j=A3 j)∧T8 ⟨[],[v5],[aG],[A4],[],[],[]⟩)∧
 ∀v5:V1,∀aG:Int,∀A4:(Nat→Int),T8 ⟨[],[v5],[aG],[A4],[],[],[]⟩→
 aU (aG<64) (
 aM ((-9223372036854775808)≤(aG - 2)) (
 aM ((aG - 2)≤9223372036854775807) (
 aM (0≤(aG - 2)) (
 aM ((aG - 2)<aG) (
 aM ((-9223372036854775808)≤(aG - 7)) (
 aM ((aG - 7)≤9223372036854775807) (
 aM (0≤(aG - 7)) (
 aM ((aG - 7)<aG) (
 aM ((-9223372036854775808)≤(aG - 15)) (
 aM ((aG - 15)≤9223372036854775807) (
 aM (0≤(aG - 15)) (
 aM ((aG - 15)<aG) (
 aM ((-9223372036854775808)≤(aG - 16)) (
 aM ((aG - 16)≤9223372036854775807) (
 aM (0≤(aG - 16)) (
 aM ((aG - 16)<aG) (
 ∃post,aq P 133 [.int .i64 3,.int .u64 (A4 (ag (aG - 2))),.int .i64 32] [] post∧
 ∀x hs,post x hs→∃aO:Int,x= .int .u64 aO∧hs=[]∧
 ∃post,aq P 133 [.int .i64 2,.int .u64 (A4 (ag (aG - 15))),.int .i64 32] [] post∧
 ∀x hs,post x hs→∃aI:Int,x= .int .u64 aI∧hs=[]∧
 ∃post,aq P 130 [.int .i64 32] [] post∧
 ∀x hs,post x hs→x= .int .u64 4294967296∧hs=[]∧
 ∀_:Nat,aM (0≤aG) (
 aM (((aG+1)*8)≤140737488355328) (
 ∀v6:V1,aM ((-9223372036854775808)≤(aG+1)) (
 aM ((aG+1)≤9223372036854775807) (
 ∃Lu:V1,∃fB:Int,∃N8:(Nat→Int),fB=(aG+1)∧Lu=v6∧Lu=v6∧fB=(aG+1)∧(∀j,j<(ag fB)→N8 j=(aj A4 (ag aG) (ax .rem .u64 (ae .u64 ((ae .u64 ((ae .u64 (aO+(A4 (ag (aG - 7)))))+aI))+(A4 (ag (aG - 16))))) 4294967296)) j)∧T8 ⟨[],[Lu],[fB],[N8],[],[],[]⟩∧W6 ⟨[],[Lu],[fB],[N8],[],[],[]⟩<W6 ⟨[],[v5],[aG],[A4],[],[],[]⟩))))))))))))))))))))) (
 ∀_:V1,∀v7:V1,∃(O1:Ext→Prop) (RT:Ext→Nat),(∃v8:V1,∃aO:Int,∃A5:(Nat→Int),aO=0∧v8=v7∧v8=v7∧(∀j,j<8→A5 j=(aj (aj (aj (aj (aj (aj (aj (aj (fun _=>0) 0 x0) 1 x1) 2 x2) 3 x3) 4 x4) 5 x5) 6 x6) 7 x7) j)∧O1 ⟨[],[v8],[aO],[A5],[],[],[]⟩)∧
 ∀v8:V1,∀aO:Int,∀A5:(Nat→Int),O1 ⟨[],[v8],[aO],[A5],[],[],[]⟩→
 aU (aO<64) (
 aM (0≤aO) (
 aM (aO<80) (
 aM (aO<aG) (
 ∃post,aq P 134 [v8.v,.int .u64 (ae .u64 (ax .quo .u64 (A1 (ag aO)) 4294967296)),.int .u64 (A4 (ag aO)),.int .i64 32] [aB true 70 1 v8.v 8 (aH 8 [au .u64 1 A5])] post∧
 ∀x hs,post x hs→∃v9:V1,∃A6:(Nat→Int),x=v9.v∧hs=[aB true 70 1 v9.v 8 (aH 8 [au .u64 1 A6])]∧
 aM ((-9223372036854775808)≤(aO+1)) (
 aM ((aO+1)≤9223372036854775807) (
 ∃XK:V1,∃lT:Int,∃Tz:(Nat→Int),lT=(aO+1)∧XK=v9∧XK=v9∧(∀j,j<8→Tz j=A6 j)∧O1 ⟨[],[XK],[lT],[Tz],[],[],[]⟩∧RT ⟨[],[XK],[lT],[Tz],[],[],[]⟩<RT ⟨[],[v8],[aO],[A5],[],[],[]⟩)))))) (
 ∃post,aq P 130 [.int .i64 32] [] post∧
 ∀x hs,post x hs→x= .int .u64 4294967296∧hs=[]∧
 ∃post,aq P 130 [.int .i64 32] [] post∧
 ∀x hs,post x hs→x= .int .u64 4294967296∧hs=[]∧
 ∃post,aq P 130 [.int .i64 32] [] post∧
 ∀x hs,post x hs→x= .int .u64 4294967296∧hs=[]∧
 ∃post,aq P 130 [.int .i64 32] [] post∧
 ∀x hs,post x hs→x= .int .u64 4294967296∧hs=[]∧
 ∃post,aq P 130 [.int .i64 32] [] post∧
 ∀x hs,post x hs→x= .int .u64 4294967296∧hs=[]∧
 ∃post,aq P 130 [.int .i64 32] [] post∧
 ∀x hs,post x hs→x= .int .u64 4294967296∧hs=[]∧
 ∃post,aq P 130 [.int .i64 32] [] post∧
 ∀x hs,post x hs→x= .int .u64 4294967296∧hs=[]∧
 ∃post,aq P 130 [.int .i64 32] [] post∧
 ∀x hs,post x hs→x= .int .u64 4294967296∧hs=[]∧
 aM ((-9223372036854775808)≤(x8+64)) (
 aM ((x8+64)≤9223372036854775807) (
 ∃x0':Int,∃N6:Int,∃Az:Int,∃MZ:Int,∃uX:Int,∃Gc:Int,∃wV:Int,∃LS:Int,∃FV:Int,FV=(x8+64)∧x0'=(ax .rem .u64 (ae .u64 (x0+(A5 0))) 4294967296)∧N6=(ax .rem .u64 (ae .u64 (x1+(A5 1))) 4294967296)∧Az=(ax .rem .u64 (ae .u64 (x2+(A5 2))) 4294967296)∧MZ=(ax .rem .u64 (ae .u64 (x3+(A5 3))) 4294967296)∧uX=(ax .rem .u64 (ae .u64 (x4+(A5 4))) 4294967296)∧Gc=(ax .rem .u64 (ae .u64 (x5+(A5 5))) 4294967296)∧wV=(ax .rem .u64 (ae .u64 (x6+(A5 6))) 4294967296)∧LS=(ax .rem .u64 (ae .u64 (x7+(A5 7))) 4294967296)∧fA ⟨[],[],[x0',N6,Az,MZ,uX,Gc,wV,LS,FV],[],[],[],[]⟩∧iW ⟨[],[],[x0',N6,Az,MZ,uX,Gc,wV,LS,FV],[],[],[],[]⟩<iW ⟨[],[],[x0,x1,x2,x3,x4,x5,x6,x7,x8],[],[],[],[]⟩)))))) (
 ∃(pj:Ext→Prop) (pE:Ext→Nat),(∃v4:V1,∃x9:Int,∃aG:Int,∃A3:(Nat→Int),∃A4:(Nat→Int),x9=0∧v4=(⟨.slice none 0 0,rfl⟩:V1)∧(∀j,j<8→A4 j=(aj (aj (aj (aj (aj (aj (aj (aj (fun _=>0) 0 x0) 1 x1) 2 x2) 3 x3) 4 x4) 5 x5) 6 x6) 7 x7) j)∧v4=(⟨.slice none 0 0,rfl⟩:V1)∧aG=0∧(∀j,j<(ag aG)→A3 j=(fun _=>0) j)∧pj ⟨[],[v4],[x9,aG],[A3,A4],[],[],[]⟩)∧
 ∀v4:V1,∀x9:Int,∀aG:Int,∀A3:(Nat→Int),∀A4:(Nat→Int),pj ⟨[],[v4],[x9,aG],[A3,A4],[],[],[]⟩→
 aU (x9<8) (
 aM (0≤x9) (
 ∃post,aq P 130 [.int .i64 24] [] post∧
 ∀x hs,post x hs→x= .int .u64 16777216∧hs=[]∧
 ∀_:Nat,aM (0≤aG) (
 aM (((aG+1)*1)≤140737488355328) (
 ∀_:V1,∃post,aq P 130 [.int .i64 16] [] post∧
 ∀x hs,post x hs→x= .int .u64 65536∧hs=[]∧
 ∀_:Nat,aM (0≤(aG+1)) (
 aM ((((aG+1)+1)*1)≤140737488355328) (
 ∀_:V1,∃post,aq P 130 [.int .i64 8] [] post∧
 ∀x hs,post x hs→x= .int .u64 256∧hs=[]∧
 ∀_:Nat,aM (0≤((aG+1)+1)) (
 aM (((((aG+1)+1)+1)*1)≤140737488355328) (
 ∀_:V1,∃post,aq P 130 [.int .i64 0] [] post∧
 ∀x hs,post x hs→x= .int .u64 1∧hs=[]∧
 ∀_:Nat,aM (0≤(((aG+1)+1)+1)) (
 aM ((((((aG+1)+1)+1)+1)*1)≤140737488355328) (
 ∀v8:V1,aM ((-9223372036854775808)≤(x9+1)) (
 aM ((x9+1)≤9223372036854775807) (
 ∃xM:V1,∃kD:Int,∃fB:Int,∃N7:(Nat→Int),∃N8:(Nat→Int),kD=(x9+1)∧xM=v8∧(∀j,j<8→N8 j=A4 j)∧xM=v8∧fB=((((aG+1)+1)+1)+1)∧(∀j,j<(ag fB)→N7 j=(aj (aj (aj (aj A3 (ag aG) (ae .u8 (ax .rem .u64 (ae .u64 (ax .quo .u64 (A4 (ag x9)) 16777216)) 256))) (ag (aG+1)) (ae .u8 (ax .rem .u64 (ae .u64 (ax .quo .u64 (A4 (ag x9)) 65536)) 256))) (ag ((aG+1)+1)) (ae .u8 (ax .rem .u64 (ae .u64 (ax .quo .u64 (A4 (ag x9)) 256)) 256))) (ag (((aG+1)+1)+1)) (ae .u8 (ax .rem .u64 (ae .u64 (ax .quo .u64 (A4 (ag x9)) 1)) 256))) j)∧pj ⟨[],[xM],[kD,fB],[N7,N8],[],[],[]⟩∧pE ⟨[],[xM],[kD,fB],[N7,N8],[],[],[]⟩<pE ⟨[],[v4],[x9,aG],[A3,A4],[],[],[]⟩)))))))))))) (
 ao (v4.v) [aB true 5 1 v0.v 96 (aH 96 [au .u8 1 A0]),ak b0 true (adH (al .u64 8 A4) ([])),aB true 70 1 v1.v 80 (aH 80 [au .u64 1 A1]),aB true 5 1 v2.v 128 (aH 128 [au .u8 1 A2]),aB true 5 1 v4.v (ag aG) (aH (ag aG) [au .u8 1 A3])]))
theorem QT(P:Program)(ao:Value→List HP→Prop)(A0:Nat→Int)(v0:V1)(L:Nat→LC):VC P ao CC {iv:=[],av:=[A0],bo:=[],bv:=[],vv:=[v0]} L=I5 P ao A0 v0:=by kernel_rfl
theorem Ox:cC cx 113 ([SV.vv 0,SV.int (adL) (E.lit 32)]) ([Ck.cc true 0 5 1 (E.lit 96) [{ck:=CK.int (adG),w:=1,a:=E.aw 0}]]) ({b:=0,v:=1,i:=0,a:=1,bo:=0,p:=0,r:=0}) Try.f113=CC:=rfl
noncomputable def vm:F:=cC cx 45 ([SV.agg [SV.aX (adG) 16 (E.aw 0)],SV.agg [SV.aX (adG) 32 (E.aw 1)],SV.agg [SV.aX (adG) 32 (E.aw 2)],SV.agg [SV.int (adG) (E.var 0),SV.int (adG) (E.var 1)],SV.agg [SV.int (adG) (E.var 2),SV.int (adG) (E.var 3)]]) ([]) ({b:=0,v:=0,i:=4,a:=3,bo:=0,p:=0,r:=0}) Try.f45
def Bx(P:Program)(ao:Value→List HP→Prop)(x0:Int)(x1:Int)(x2:Int)(x3:Int)(A0:Nat→Int)(A1:Nat→Int)(A2:Nat→Int):Prop:=
 ∀b0:Nat,∀b1:Nat,∀b2:Nat,∀b3:Nat,∀b4:Nat,∀b5:Nat,∀b6:Nat,∀b7:Nat,∀_:V1,∀b8:Nat,∀_:V1,∀b9:Nat,∀_:V1,∀fh:Nat,∀_:V1,∀kA:Nat,∀_:V1,∀mB:Nat,∀_:V1,∀C2:Nat,∀_:V1,∀uw:Nat,∀_:V1,∀En:Nat,∀_:V1,∀Aq:Nat,∀_:V1,∀ID:Nat,∀_:V1,∀Iw:Nat,∀_:V1,∀Kd:Nat,∀_:V1,∀Eo:Nat,∀_:V1,∀Pc:Nat,∀_:V1,∀Ix:Nat,∀_:V1,∀Pd:Nat,∀Wm:Nat,∀_:V1,∀Wn:Nat,∀_:V1,∀Wp:Nat,∀_:V1,∀Wq:Nat,∀_:V1,∀Ws:Nat,∀_:V1,∀Wt:Nat,∀_:V1,∀Wu:Nat,∀_:V1,∀Wv:Nat,∀_:V1,∀Ww:Nat,∀_:V1,∀Wx:Nat,∀_:V1,∀Wy:Nat,∀_:V1,∀Wz:Nat,∀_:V1,∀WA:Nat,∀_:V1,∀WB:Nat,∀_:V1,∀WC:Nat,∀_:V1,∀WD:Nat,∀_:V1,∀WE:Nat,∀_:V1,∀WG:Nat,∀_:V1,∀WH:Nat,∀_:V1,∀WI:Nat,∀_:V1,∀WJ:Nat,∀_:V1,∀WK:Nat,∀_:V1,∀WL:Nat,∀_:V1,∀WM:Nat,∀_:V1,∀WN:Nat,∀_:V1,∀WO:Nat,∀_:V1,∀WQ:Nat,∀_:V1,∀WR:Nat,∀_:V1,∀WS:Nat,∀_:V1,∀WT:Nat,∀_:V1,∀WU:Nat,∀_:V1,∀WV:Nat,∀v47:V1,∀_:V1,∀WW:Nat,∀WX:Nat,∀_:V1,∀WY:Nat,∀_:V1,∀WZ:Nat,∀_:V1,∀W0:Nat,∀_:V1,∀W3:Nat,∀_:V1,∀W4:Nat,∀_:V1,∀W5:Nat,∀_:V1,∀Z7:Nat,∀_:V1,∀Z8:Nat,∀_:V1,∀Z9:Nat,∀_:V1,∀Z_:Nat,∀_:V1,∀b68:Nat,∀_:V1,∀b69:Nat,∀_:V1,∀b70:Nat,∀_:V1,∀b71:Nat,∀_:V1,∀b72:Nat,∀_:V1,∀b73:Nat,∀_:V1,∀XI:Nat,∀_:V1,∀b75:Nat,∀_:V1,∀b76:Nat,∀_:V1,∀b77:Nat,∀_:V1,∀b78:Nat,∀_:V1,∀b79:Nat,∀_:V1,∀b80:Nat,∀_:V1,∀b81:Nat,∀_:V1,∀b82:Nat,∀_:V1,∀b83:Nat,∀_:V1,∀b84:Nat,∀_:V1,∀b85:Nat,∀_:V1,∀b86:Nat,∀_:V1,∀Ty:Nat,∀_:V1,∀b88:Nat,∀v80:V1,∀_:V1,∀b89:Nat,∀XL:V1,∀b90:Nat,∀b91:Nat,∃post,aq P 113 [XL.v,.int .i64 32] [aB true 5 1 XL.v 96 (aH 96 [au .u8 1 (aW (aW (aW (aj (aj (aj (aj (aj (aj (aj (aj (aj (aj (aj (aj (aj (aj (aj (aW (aj (aj (aj (aj (aj (aj (aj (aj (aj (aj (aj (aj (fun _=>0) 0 104) 1 97) 2 105) 3 108) 4 101) 5 114) 6 32) 7 109) 8 101) 9 100) 10 105) 11 97) 12 1 (aj (fun _=>0) 0 (A0 0))) 13 (A0 1)) 14 (A0 2)) 15 (A0 3)) 16 (A0 4)) 17 (A0 5)) 18 (A0 6)) 19 (A0 7)) 20 (A0 8)) 21 (A0 9)) 22 (A0 10)) 23 (A0 11)) 24 (A0 12)) 25 (A0 13)) 26 (A0 14)) 27 (A0 15)) 28 32 (aj (aj (aj (aj (aj (aj (aj (aj (aj (aj (aj (aj (aj (aj (aj (aj (aj (aj (aj (aj (aj (aj (aj (aj (aj (aj (aj (aj (aj (aj (aj (aj (fun _=>0) 0 (A1 0)) 1 (A1 1)) 2 (A1 2)) 3 (A1 3)) 4 (A1 4)) 5 (A1 5)) 6 (A1 6)) 7 (A1 7)) 8 (A1 8)) 9 (A1 9)) 10 (A1 10)) 11 (A1 11)) 12 (A1 12)) 13 (A1 13)) 14 (A1 14)) 15 (A1 15)) 16 (A1 16)) 17 (A1 17)) 18 (A1 18)) 19 (A1 19)) 20 (A1 20)) 21 (A1 21)) 22 (A1 22)) 23 (A1 23)) 24 (A1 24)) 25 (A1 25)) 26 (A1 26)) 27 (A1 27)) 28 (A1 28)) 29 (A1 29)) 30 (A1 30)) 31 (A1 31))) 60 32 (aj (aj (aj (aj (aj (aj (aj (aj (aj (aj (aj (aj (aj (aj (aj (aj (aj (aj (aj (aj (aj (aj (aj (aj (aj (aj (aj (aj (aj (aj (aj (aj (fun _=>0) 0 (A2 0)) 1 (A2 1)) 2 (A2 2)) 3 (A2 3)) 4 (A2 4)) 5 (A2 5)) 6 (A2 6)) 7 (A2 7)) 8 (A2 8)) 9 (A2 9)) 10 (A2 10)) 11 (A2 11)) 12 (A2 12)) 13 (A2 13)) 14 (A2 14)) 15 (A2 15)) 16 (A2 16)) 17 (A2 17)) 18 (A2 18)) 19 (A2 19)) 20 (A2 20)) 21 (A2 21)) 22 (A2 22)) 23 (A2 23)) 24 (A2 24)) 25 (A2 25)) 26 (A2 26)) 27 (A2 27)) 28 (A2 28)) 29 (A2 29)) 30 (A2 30)) 31 (A2 31))) 92 4 (aj (aj (aj (aj (fun _=>0) 0 x0) 1 x1) 2 x2) 3 x3))])] post∧
 ∀x hs,post x hs→∃v83:V1,∃A3:(Nat→Int),x=v83.v∧hs=[aB true 5 1 XL.v 96 (aH 96 [au .u8 1 (aW (aW (aW (aj (aj (aj (aj (aj (aj (aj (aj (aj (aj (aj (aj (aj (aj (aj (aW (aj (aj (aj (aj (aj (aj (aj (aj (aj (aj (aj (aj (fun _=>0) 0 104) 1 97) 2 105) 3 108) 4 101) 5 114) 6 32) 7 109) 8 101) 9 100) 10 105) 11 97) 12 1 (aj (fun _=>0) 0 (A0 0))) 13 (A0 1)) 14 (A0 2)) 15 (A0 3)) 16 (A0 4)) 17 (A0 5)) 18 (A0 6)) 19 (A0 7)) 20 (A0 8)) 21 (A0 9)) 22 (A0 10)) 23 (A0 11)) 24 (A0 12)) 25 (A0 13)) 26 (A0 14)) 27 (A0 15)) 28 32 (aj (aj (aj (aj (aj (aj (aj (aj (aj (aj (aj (aj (aj (aj (aj (aj (aj (aj (aj (aj (aj (aj (aj (aj (aj (aj (aj (aj (aj (aj (aj (aj (fun _=>0) 0 (A1 0)) 1 (A1 1)) 2 (A1 2)) 3 (A1 3)) 4 (A1 4)) 5 (A1 5)) 6 (A1 6)) 7 (A1 7)) 8 (A1 8)) 9 (A1 9)) 10 (A1 10)) 11 (A1 11)) 12 (A1 12)) 13 (A1 13)) 14 (A1 14)) 15 (A1 15)) 16 (A1 16)) 17 (A1 17)) 18 (A1 18)) 19 (A1 19)) 20 (A1 20)) 21 (A1 21)) 22 (A1 22)) 23 (A1 23)) 24 (A1 24)) 25 (A1 25)) 26 (A1 26)) 27 (A1 27)) 28 (A1 28)) 29 (A1 29)) 30 (A1 30)) 31 (A1 31))) 60 32 (aj (aj (aj (aj (aj (aj (aj (aj (aj (aj (aj (aj (aj (aj (aj (aj (aj (aj (aj (aj (aj (aj (aj (aj (aj (aj (aj (aj (aj (aj (aj (aj (fun _=>0) 0 (A2 0)) 1 (A2 1)) 2 (A2 2)) 3 (A2 3)) 4 (A2 4)) 5 (A2 5)) 6 (A2 6)) 7 (A2 7)) 8 (A2 8)) 9 (A2 9)) 10 (A2 10)) 11 (A2 11)) 12 (A2 12)) 13 (A2 13)) 14 (A2 14)) 15 (A2 15)) 16 (A2 16)) 17 (A2 17)) 18 (A2 18)) 19 (A2 19)) 20 (A2 20)) 21 (A2 21)) 22 (A2 22)) 23 (A2 23)) 24 (A2 24)) 25 (A2 25)) 26 (A2 26)) 27 (A2 27)) 28 (A2 28)) 29 (A2 29)) 30 (A2 30)) 31 (A2 31))) 92 4 (aj (aj (aj (aj (fun _=>0) 0 x0) 1 x1) 2 x2) 3 x3))]),aB true 5 1 v83.v 32 (aH 32 [au .u8 1 A3])]∧
 ao (.agg #[.int .u8 (A3 0),.int .u8 (A3 1),.int .u8 (A3 2),.int .u8 (A3 3),.int .u8 (A3 4),.int .u8 (A3 5),.int .u8 (A3 6),.int .u8 (A3 7),.int .u8 (A3 8),.int .u8 (A3 9),.int .u8 (A3 10),.int .u8 (A3 11),.int .u8 (A3 12),.int .u8 (A3 13),.int .u8 (A3 14),.int .u8 (A3 15),.int .u8 (A3 16),.int .u8 (A3 17),.int .u8 (A3 18),.int .u8 (A3 19),.int .u8 (A3 20),.int .u8 (A3 21),.int .u8 (A3 22),.int .u8 (A3 23),.int .u8 (A3 24),.int .u8 (A3 25),.int .u8 (A3 26),.int .u8 (A3 27),.int .u8 (A3 28),.int .u8 (A3 29),.int .u8 (A3 30),.int .u8 (A3 31)]) [ak b0 true (adH (al .u8 16 A0) ([])),ak b1 true (adH (al .u8 32 A1) ([])),ak b2 true (adH (al .u8 32 A2) ([])),ak b3 true ([.int .u8 x0,.int .u8 x1]),ak b4 true ([.int .u8 x2,.int .u8 x3]),ak b5 true ([.int .u8 (A3 0),.int .u8 (A3 1),.int .u8 (A3 2),.int .u8 (A3 3),.int .u8 (A3 4),.int .u8 (A3 5),.int .u8 (A3 6),.int .u8 (A3 7),.int .u8 (A3 8),.int .u8 (A3 9),.int .u8 (A3 10),.int .u8 (A3 11),.int .u8 (A3 12),.int .u8 (A3 13),.int .u8 (A3 14),.int .u8 (A3 15),.int .u8 (A3 16),.int .u8 (A3 17),.int .u8 (A3 18),.int .u8 (A3 19),.int .u8 (A3 20),.int .u8 (A3 21),.int .u8 (A3 22),.int .u8 (A3 23),.int .u8 (A3 24),.int .u8 (A3 25),.int .u8 (A3 26),.int .u8 (A3 27),.int .u8 (A3 28),.int .u8 (A3 29),.int .u8 (A3 30),.int .u8 (A3 31)]),ak b6 false ([.int .u8 104,.int .u8 97,.int .u8 105,.int .u8 108,.int .u8 101,.int .u8 114,.int .u8 32,.int .u8 109,.int .u8 101,.int .u8 100,.int .u8 105,.int .u8 97]),ak b7 true ([.int .u8 (A0 0)]),aB true 5 1 XL.v 96 (aH 96 [au .u8 1 (aW (aW (aW (aj (aj (aj (aj (aj (aj (aj (aj (aj (aj (aj (aj (aj (aj (aj (aW (aj (aj (aj (aj (aj (aj (aj (aj (aj (aj (aj (aj (fun _=>0) 0 104) 1 97) 2 105) 3 108) 4 101) 5 114) 6 32) 7 109) 8 101) 9 100) 10 105) 11 97) 12 1 (aj (fun _=>0) 0 (A0 0))) 13 (A0 1)) 14 (A0 2)) 15 (A0 3)) 16 (A0 4)) 17 (A0 5)) 18 (A0 6)) 19 (A0 7)) 20 (A0 8)) 21 (A0 9)) 22 (A0 10)) 23 (A0 11)) 24 (A0 12)) 25 (A0 13)) 26 (A0 14)) 27 (A0 15)) 28 32 (aj (aj (aj (aj (aj (aj (aj (aj (aj (aj (aj (aj (aj (aj (aj (aj (aj (aj (aj (aj (aj (aj (aj (aj (aj (aj (aj (aj (aj (aj (aj (aj (fun _=>0) 0 (A1 0)) 1 (A1 1)) 2 (A1 2)) 3 (A1 3)) 4 (A1 4)) 5 (A1 5)) 6 (A1 6)) 7 (A1 7)) 8 (A1 8)) 9 (A1 9)) 10 (A1 10)) 11 (A1 11)) 12 (A1 12)) 13 (A1 13)) 14 (A1 14)) 15 (A1 15)) 16 (A1 16)) 17 (A1 17)) 18 (A1 18)) 19 (A1 19)) 20 (A1 20)) 21 (A1 21)) 22 (A1 22)) 23 (A1 23)) 24 (A1 24)) 25 (A1 25)) 26 (A1 26)) 27 (A1 27)) 28 (A1 28)) 29 (A1 29)) 30 (A1 30)) 31 (A1 31))) 60 32 (aj (aj (aj (aj (aj (aj (aj (aj (aj (aj (aj (aj (aj (aj (aj (aj (aj (aj (aj (aj (aj (aj (aj (aj (aj (aj (aj (aj (aj (aj (aj (aj (fun _=>0) 0 (A2 0)) 1 (A2 1)) 2 (A2 2)) 3 (A2 3)) 4 (A2 4)) 5 (A2 5)) 6 (A2 6)) 7 (A2 7)) 8 (A2 8)) 9 (A2 9)) 10 (A2 10)) 11 (A2 11)) 12 (A2 12)) 13 (A2 13)) 14 (A2 14)) 15 (A2 15)) 16 (A2 16)) 17 (A2 17)) 18 (A2 18)) 19 (A2 19)) 20 (A2 20)) 21 (A2 21)) 22 (A2 22)) 23 (A2 23)) 24 (A2 24)) 25 (A2 25)) 26 (A2 26)) 27 (A2 27)) 28 (A2 28)) 29 (A2 29)) 30 (A2 30)) 31 (A2 31))) 92 4 (aj (aj (aj (aj (fun _=>0) 0 x0) 1 x1) 2 x2) 3 x3))]),ak b8 true ([.int .u8 (A0 1)]),ak b9 true ([.int .u8 (A0 2)]),ak fh true ([.int .u8 (A0 3)]),ak kA true ([.int .u8 (A0 4)]),ak mB true ([.int .u8 (A0 5)]),ak C2 true ([.int .u8 (A0 6)]),ak uw true ([.int .u8 (A0 7)]),ak En true ([.int .u8 (A0 8)]),ak Aq true ([.int .u8 (A0 9)]),ak ID true ([.int .u8 (A0 10)]),ak Iw true ([.int .u8 (A0 11)]),ak Kd true ([.int .u8 (A0 12)]),ak Eo true ([.int .u8 (A0 13)]),ak Pc true ([.int .u8 (A0 14)]),ak Ix true ([.int .u8 (A0 15)]),ak Pd true (adH (al .u8 32 A1) ([])),ak Wm true ([.int .u8 (A1 0)]),aB true 5 1 v47.v 32 (aH 32 [au .u8 1 (aj (aj (aj (aj (aj (aj (aj (aj (aj (aj (aj (aj (aj (aj (aj (aj (aj (aj (aj (aj (aj (aj (aj (aj (aj (aj (aj (aj (aj (aj (aj (aj (fun _=>0) 0 (A1 0)) 1 (A1 1)) 2 (A1 2)) 3 (A1 3)) 4 (A1 4)) 5 (A1 5)) 6 (A1 6)) 7 (A1 7)) 8 (A1 8)) 9 (A1 9)) 10 (A1 10)) 11 (A1 11)) 12 (A1 12)) 13 (A1 13)) 14 (A1 14)) 15 (A1 15)) 16 (A1 16)) 17 (A1 17)) 18 (A1 18)) 19 (A1 19)) 20 (A1 20)) 21 (A1 21)) 22 (A1 22)) 23 (A1 23)) 24 (A1 24)) 25 (A1 25)) 26 (A1 26)) 27 (A1 27)) 28 (A1 28)) 29 (A1 29)) 30 (A1 30)) 31 (A1 31))]),ak Wn true ([.int .u8 (A1 1)]),ak Wp true ([.int .u8 (A1 2)]),ak Wq true ([.int .u8 (A1 3)]),ak Ws true ([.int .u8 (A1 4)]),ak Wt true ([.int .u8 (A1 5)]),ak Wu true ([.int .u8 (A1 6)]),ak Wv true ([.int .u8 (A1 7)]),ak Ww true ([.int .u8 (A1 8)]),ak Wx true ([.int .u8 (A1 9)]),ak Wy true ([.int .u8 (A1 10)]),ak Wz true ([.int .u8 (A1 11)]),ak WA true ([.int .u8 (A1 12)]),ak WB true ([.int .u8 (A1 13)]),ak WC true ([.int .u8 (A1 14)]),ak WD true ([.int .u8 (A1 15)]),ak WE true ([.int .u8 (A1 16)]),ak WG true ([.int .u8 (A1 17)]),ak WH true ([.int .u8 (A1 18)]),ak WI true ([.int .u8 (A1 19)]),ak WJ true ([.int .u8 (A1 20)]),ak WK true ([.int .u8 (A1 21)]),ak WL true ([.int .u8 (A1 22)]),ak WM true ([.int .u8 (A1 23)]),ak WN true ([.int .u8 (A1 24)]),ak WO true ([.int .u8 (A1 25)]),ak WQ true ([.int .u8 (A1 26)]),ak WR true ([.int .u8 (A1 27)]),ak WS true ([.int .u8 (A1 28)]),ak WT true ([.int .u8 (A1 29)]),ak WU true ([.int .u8 (A1 30)]),ak WV true ([.int .u8 (A1 31)]),ak WW true (adH (al .u8 32 A2) ([])),ak WX true ([.int .u8 (A2 0)]),aB true 5 1 v80.v 32 (aH 32 [au .u8 1 (aj (aj (aj (aj (aj (aj (aj (aj (aj (aj (aj (aj (aj (aj (aj (aj (aj (aj (aj (aj (aj (aj (aj (aj (aj (aj (aj (aj (aj (aj (aj (aj (fun _=>0) 0 (A2 0)) 1 (A2 1)) 2 (A2 2)) 3 (A2 3)) 4 (A2 4)) 5 (A2 5)) 6 (A2 6)) 7 (A2 7)) 8 (A2 8)) 9 (A2 9)) 10 (A2 10)) 11 (A2 11)) 12 (A2 12)) 13 (A2 13)) 14 (A2 14)) 15 (A2 15)) 16 (A2 16)) 17 (A2 17)) 18 (A2 18)) 19 (A2 19)) 20 (A2 20)) 21 (A2 21)) 22 (A2 22)) 23 (A2 23)) 24 (A2 24)) 25 (A2 25)) 26 (A2 26)) 27 (A2 27)) 28 (A2 28)) 29 (A2 29)) 30 (A2 30)) 31 (A2 31))]),ak WY true ([.int .u8 (A2 1)]),ak WZ true ([.int .u8 (A2 2)]),ak W0 true ([.int .u8 (A2 3)]),ak W3 true ([.int .u8 (A2 4)]),ak W4 true ([.int .u8 (A2 5)]),ak W5 true ([.int .u8 (A2 6)]),ak Z7 true ([.int .u8 (A2 7)]),ak Z8 true ([.int .u8 (A2 8)]),ak Z9 true ([.int .u8 (A2 9)]),ak Z_ true ([.int .u8 (A2 10)]),ak b68 true ([.int .u8 (A2 11)]),ak b69 true ([.int .u8 (A2 12)]),ak b70 true ([.int .u8 (A2 13)]),ak b71 true ([.int .u8 (A2 14)]),ak b72 true ([.int .u8 (A2 15)]),ak b73 true ([.int .u8 (A2 16)]),ak XI true ([.int .u8 (A2 17)]),ak b75 true ([.int .u8 (A2 18)]),ak b76 true ([.int .u8 (A2 19)]),ak b77 true ([.int .u8 (A2 20)]),ak b78 true ([.int .u8 (A2 21)]),ak b79 true ([.int .u8 (A2 22)]),ak b80 true ([.int .u8 (A2 23)]),ak b81 true ([.int .u8 (A2 24)]),ak b82 true ([.int .u8 (A2 25)]),ak b83 true ([.int .u8 (A2 26)]),ak b84 true ([.int .u8 (A2 27)]),ak b85 true ([.int .u8 (A2 28)]),ak b86 true ([.int .u8 (A2 29)]),ak Ty true ([.int .u8 (A2 30)]),ak b88 true ([.int .u8 (A2 31)]),ak b89 true ([.int .u8 x0,.int .u8 x1,.int .u8 x2,.int .u8 x3]),ak b90 true ([.int .u8 (A3 0),.int .u8 (A3 1),.int .u8 (A3 2),.int .u8 (A3 3),.int .u8 (A3 4),.int .u8 (A3 5),.int .u8 (A3 6),.int .u8 (A3 7),.int .u8 (A3 8),.int .u8 (A3 9),.int .u8 (A3 10),.int .u8 (A3 11),.int .u8 (A3 12),.int .u8 (A3 13),.int .u8 (A3 14),.int .u8 (A3 15),.int .u8 (A3 16),.int .u8 (A3 17),.int .u8 (A3 18),.int .u8 (A3 19),.int .u8 (A3 20),.int .u8 (A3 21),.int .u8 (A3 22),.int .u8 (A3 23),.int .u8 (A3 24),.int .u8 (A3 25),.int .u8 (A3 26),.int .u8 (A3 27),.int .u8 (A3 28),.int .u8 (A3 29),.int .u8 (A3 30),.int .u8 (A3 31)]),ak b91 true ([.int .u8 (A3 0),.int .u8 (A3 1),.int .u8 (A3 2),.int .u8 (A3 3),.int .u8 (A3 4),.int .u8 (A3 5),.int .u8 (A3 6),.int .u8 (A3 7),.int .u8 (A3 8),.int .u8 (A3 9),.int .u8 (A3 10),.int .u8 (A3 11),.int .u8 (A3 12),.int .u8 (A3 13),.int .u8 (A3 14),.int .u8 (A3 15),.int .u8 (A3 16),.int .u8 (A3 17),.int .u8 (A3 18),.int .u8 (A3 19),.int .u8 (A3 20),.int .u8 (A3 21),.int .u8 (A3 22),.int .u8 (A3 23),.int .u8 (A3 24),.int .u8 (A3 25),.int .u8 (A3 26),.int .u8 (A3 27),.int .u8 (A3 28),.int .u8 (A3 29),.int .u8 (A3 30),.int .u8 (A3 31)]),aB true 5 1 v83.v 32 (aH 32 [au .u8 1 A3])]
theorem Li(P:Program)(ao:Value→List HP→Prop)(x0:Int)(x1:Int)(x2:Int)(x3:Int)(A0:Nat→Int)(A1:Nat→Int)(A2:Nat→Int)(L:Nat→LC):VC P ao vm {iv:=[x0,x1,x2,x3],av:=[A0,A1,A2],bo:=[],bv:=[],vv:=[]} L=Bx P ao x0 x1 x2 x3 A0 A1 A2:=by kernel_rfl
theorem HD:cC cx 45 ([SV.agg [SV.aX (adG) 16 (E.aw 0)],SV.agg [SV.aX (adG) 32 (E.aw 1)],SV.agg [SV.aX (adG) 32 (E.aw 2)],SV.agg [SV.int (adG) (E.var 0),SV.int (adG) (E.var 1)],SV.agg [SV.int (adG) (E.var 2),SV.int (adG) (E.var 3)]]) ([]) ({b:=0,v:=0,i:=4,a:=3,bo:=0,p:=0,r:=0}) Try.f45=vm:=rfl
end Go.RX.Sh
