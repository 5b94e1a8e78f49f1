/- Frames. -/
import Derived.Test.YtmgbbbmdbpbeeaaM25
open Go.IntKind renaming wrap → ae
open Go.Proofs.Try renaming prog → adE
open Int renaming toNat → ag
open List renaming append → ads
namespace Go.RX.Fm
open Go.RX Go.Proofs Go.RX.Fe Go.RX.Fg Go.RX.Fi Go.RX.Fj Go.RX.Fk Go.RX.Fl
noncomputable def cx:Ctx:={T:=TT,FT:=FT,loops:=Fm.loops,cb:=Fm.cb}
set_option maxRecDepth 100000
def mI(ax:PT)(A0 A1 A2:Nat→Int)(v0 v1 _:V1)(b0:Nat):Prop:=
 ∀_:V1,∃(bN:Ext→Prop) (bY:Ext→Nat),(∃(x0:Int) (A3:Nat→Int),x0=0∧(∀j,j<64→A3 j=(fun _=>0) j)∧bN ⟨[],[],[x0],[A3],[],[],[]⟩)∧
 ∀(x0:Int) (A3:Nat→Int),bN ⟨[],[],[x0],[A3],[],[],[]⟩→
 aZ (x0<64) (
 aw (0≤(ae .i64 (ak .quo .i64 x0 4))) (
 aw ((ae .i64 (ak .quo .i64 x0 4))<64) (
 aw (0≤x0) (
 eJ (x0+1) ((
 ∃(iE:Int) (oN:Nat→Int),iE=(x0+1)∧(∀j,j<64→oN j=(ao A3 (ag (ae .i64 (ak .quo .i64 x0 4))) (ak .bJ .u32 (ak .shl .u32 (A3 (ag (ae .i64 (ak .quo .i64 x0 4)))) 8) (ae .u32 (A2 (ag x0))))) j)∧bN ⟨[],[],[iE],[oN],[],[],[]⟩∧bY ⟨[],[],[iE],[oN],[],[],[]⟩<bY ⟨[],[],[x0],[A3],[],[],[]⟩)))))) (
 ∃(ez:Ext→Prop) (gT:Ext→Nat),(∃(x1:Int) (A4:Nat→Int),x1=16∧(∀j,j<64→A4 j=A3 j)∧ez ⟨[],[],[x1],[A4],[],[],[]⟩)∧
 ∀(x1:Int) (A4:Nat→Int),ez ⟨[],[],[x1],[A4],[],[],[]⟩→
 aZ (x1<64) (
 eJ (x1 - 2) ((
 aw (0≤(x1 - 2)) (
 aw ((x1 - 2)<64) (
 eJ (x1 - 7) ((
 aw (0≤(x1 - 7)) (
 aw ((x1 - 7)<64) (
 eJ (x1 - 15) ((
 aw (0≤(x1 - 15)) (
 aw ((x1 - 15)<64) (
 eJ (x1 - 16) ((
 aw (0≤(x1 - 16)) (
 aw ((x1 - 16)<64) (
 ∀_ _:Nat,aw (0≤x1) (
 eJ (x1+1) ((
 ∃(gM:Int) (tb:Nat→Int),gM=(x1+1)∧(∀j,j<64→tb j=(ao A4 (ag x1) (ae .u32 ((ae .u32 ((ae .u32 ((ak .aD .u32 (ak .aD .u32 (ak .bJ .u32 (ak .shr .u32 (A4 (ag (x1 - 2))) 17) (ak .shl .u32 (A4 (ag (x1 - 2))) 15)) (ak .bJ .u32 (ak .shr .u32 (A4 (ag (x1 - 2))) 19) (ak .shl .u32 (A4 (ag (x1 - 2))) 13))) (ak .shr .u32 (A4 (ag (x1 - 2))) 10))+(A4 (ag (x1 - 7)))))+(ak .aD .u32 (ak .aD .u32 (ak .bJ .u32 (ak .shr .u32 (A4 (ag (x1 - 15))) 7) (ak .shl .u32 (A4 (ag (x1 - 15))) 25)) (ak .bJ .u32 (ak .shr .u32 (A4 (ag (x1 - 15))) 18) (ak .shl .u32 (A4 (ag (x1 - 15))) 14))) (ak .shr .u32 (A4 (ag (x1 - 15))) 3))))+(A4 (ag (x1 - 16)))))) j)∧ez ⟨[],[],[gM],[tb],[],[],[]⟩∧gT ⟨[],[],[gM],[tb],[],[],[]⟩<gT ⟨[],[],[x1],[A4],[],[],[]⟩)))))))))))))))))))) (
 ∀_:Nat,∃(eV:Ext→Prop) (iH:Ext→Nat),(∃x2 x3 x4 x5 x6 x7 x8 x9 eK:Int,eK=0∧x2=(A0 0)∧x3=(A0 1)∧x4=(A0 2)∧x5=(A0 3)∧x6=(A0 4)∧x7=(A0 5)∧x8=(A0 6)∧x9=(A0 7)∧eV ⟨[],[],[x2,x3,x4,x5,x6,x7,x8,x9,eK],[],[],[],[]⟩)∧
 ∀x2 x3 x4 x5 x6 x7 x8 x9 eK:Int,eV ⟨[],[],[x2,x3,x4,x5,x6,x7,x8,x9,eK],[],[],[],[]⟩→
 aZ (eK<64) (
 aw (0≤eK) (
 ∀_ _:Nat,eJ (eK+1) ((
 ∃gQ fO eW gH qp ze zf zg vO:Int,vO=(eK+1)∧gQ=(ae .u32 ((ae .u32 ((ae .u32 ((ae .u32 ((ae .u32 (x9+(ak .aD .u32 (ak .aD .u32 (ak .bJ .u32 (ak .shr .u32 x6 6) (ak .shl .u32 x6 26)) (ak .bJ .u32 (ak .shr .u32 x6 11) (ak .shl .u32 x6 21))) (ak .bJ .u32 (ak .shr .u32 x6 25) (ak .shl .u32 x6 7)))))+(ak .aD .u32 (ak .aQ .u32 x6 x7) (ak .aQ .u32 (ak .aD .u32 4294967295 x6) x8))))+(A1 (ag eK))))+(A4 (ag eK))))+(ae .u32 ((ak .aD .u32 (ak .aD .u32 (ak .bJ .u32 (ak .shr .u32 x2 2) (ak .shl .u32 x2 30)) (ak .bJ .u32 (ak .shr .u32 x2 13) (ak .shl .u32 x2 19))) (ak .bJ .u32 (ak .shr .u32 x2 22) (ak .shl .u32 x2 10)))+(ak .aD .u32 (ak .aD .u32 (ak .aQ .u32 x2 x3) (ak .aQ .u32 x2 x4)) (ak .aQ .u32 x3 x4))))))∧fO=x2∧eW=x3∧gH=x4∧qp=(ae .u32 (x5+(ae .u32 ((ae .u32 ((ae .u32 ((ae .u32 (x9+(ak .aD .u32 (ak .aD .u32 (ak .bJ .u32 (ak .shr .u32 x6 6) (ak .shl .u32 x6 26)) (ak .bJ .u32 (ak .shr .u32 x6 11) (ak .shl .u32 x6 21))) (ak .bJ .u32 (ak .shr .u32 x6 25) (ak .shl .u32 x6 7)))))+(ak .aD .u32 (ak .aQ .u32 x6 x7) (ak .aQ .u32 (ak .aD .u32 4294967295 x6) x8))))+(A1 (ag eK))))+(A4 (ag eK))))))∧ze=x6∧zf=x7∧zg=x8∧eV ⟨[],[],[gQ,fO,eW,gH,qp,ze,zf,zg,vO],[],[],[],[]⟩∧iH ⟨[],[],[gQ,fO,eW,gH,qp,ze,zf,zg,vO],[],[],[],[]⟩<iH ⟨[],[],[x2,x3,x4,x5,x6,x7,x8,x9,eK],[],[],[],[]⟩)))) (
 ∃(dt:Ext→Prop) (eS:Ext→Nat),(∃(ib:Int) (A5 A6:Nat→Int),ib=0∧(∀j,j<8→A5 j=A0 j)∧(∀j,j<8→A6 j=(ao (ao (ao (ao (ao (ao (ao (ao (fun _=>0) 0 x2) 1 x3) 2 x4) 3 x5) 4 x6) 5 x7) 6 x8) 7 x9) j)∧dt ⟨[],[],[ib],[A5,A6],[],[],[]⟩)∧
 ∀(ib:Int) (A5 A6:Nat→Int),dt ⟨[],[],[ib],[A5,A6],[],[],[]⟩→
 aZ (ib<8) (
 aw (0≤ib) (
 eJ (ib+1) ((
 ∃(vP:Int) (tc qT:Nat→Int),vP=(ib+1)∧(∀j,j<8→tc j=(ao A5 (ag ib) (ae .u32 ((A5 (ag ib))+(A6 (ag ib))))) j)∧(∀j,j<8→qT j=A6 j)∧dt ⟨[],[],[vP],[tc,qT],[],[],[]⟩∧eS ⟨[],[],[vP],[tc,qT],[],[],[]⟩<eS ⟨[],[],[ib],[A5,A6],[],[],[]⟩)))) (
 ax (.tuple #[]) [aq b0 true ([v0.v,v1.v,.int .i64 4,.int .i64 2,.int .i64 13,.int .i64 22,.int .i64 6,.int .i64 11,.int .i64 25,.int .i64 7,.int .i64 18,.int .i64 3,.int .i64 17,.int .i64 19,.int .i64 10]),au true 115 1 v0.v 8 (aK 8 [aJ .u32 1 A5]),au true 115 1 v1.v 64 (aK 64 [aJ .u32 1 A1])]))))
theorem Df(ax:PT)(A0 A1 A2:Nat→Int)(v0 v1 v2:V1)(b0:Nat)(h:mI ax A0 A1 A2 v0 v1 v2 b0):ar adE 73 [.pointer (some ⟨b0,0,none⟩),v2.v] [aq b0 true ([v0.v,v1.v,.int .i64 4,.int .i64 2,.int .i64 13,.int .i64 22,.int .i64 6,.int .i64 11,.int .i64 25,.int .i64 7,.int .i64 18,.int .i64 3,.int .i64 17,.int .i64 19,.int .i64 10]),au true 115 1 v0.v 8 (aK 8 [aJ .u32 1 A0]),au true 115 1 v1.v 64 (aK 64 [aJ .u32 1 A1]),bn false v2 64 A2] ax:=
 Bf (C:=Fm.cx) [.ptr 0 0,.vv 2] [.row 0 true [.vv 0,.vv 1,.int .i64 (.lit 4),.int .i64 (.lit 2),.int .i64 (.lit 13),.int .i64 (.lit 22),.int .i64 (.lit 6),.int .i64 (.lit 11),.int .i64 (.lit 25),.int .i64 (.lit 7),.int .i64 (.lit 18),.int .i64 (.lit 3),.int .i64 (.lit 17),.int .i64 (.lit 19),.int .i64 (.lit 10)],.bu true 0 115 1 (.lit 8) [⟨.int .u32,1,.aO 0⟩],.bu true 1 115 1 (.lit 64) [⟨.int .u32,1,.aO 1⟩],.bu false 2 5 1 (.lit 64) [⟨.int .u8,1,.aO 2⟩]] ⟨1,3,0,3,0,0,0⟩ ⟨[],[A0,A1,A2],[],[b0],[v0,v1,v2],[],[],[]⟩ 3 Try.func73 (by kernel_rfl) h
def zZ(ax:PT):Prop:=
 ∀(b0 b1:Nat) (_:V1) (b2:Nat) (_:V1) (b3:Nat) (_:V1) (b4:Nat) (_:V1) (b5:Nat) (_:V1) (b6:Nat) (_:V1) (b7:Nat) (_:V1) (b8:Nat) (v7:V1) (b9 Oi:Nat) (_:V1) (Wa:Nat) (_:V1) (QE:Nat) (_:V1) (Oj:Nat) (_:V1) (KJ:Nat) (_:V1) (KK:Nat) (_:V1) (Dg:Nat) (_:V1) (QF:Nat) (_:V1) (KH:Nat) (_:V1) (CX:Nat) (_:V1) (zd:Nat) (_:V1) (NP:Nat) (_:V1) (Z6:Nat) (_:V1) (Z7:Nat) (_:V1) (Z8:Nat) (_:V1) (Z9:Nat) (_:V1) (Z_:Nat) (_:V1) (b27:Nat) (_:V1) (b28:Nat) (_:V1) (b29:Nat) (_:V1) (b30:Nat) (_:V1) (b31:Nat) (_:V1) (b32:Nat) (_:V1) (b33:Nat) (_:V1) (b34:Nat) (_:V1) (b35:Nat) (_:V1) (b36:Nat) (_:V1) (b37:Nat) (_:V1) (b38:Nat) (_:V1) (b39:Nat) (_:V1) (b40:Nat) (_:V1) (b41:Nat) (_:V1) (b42:Nat) (_:V1) (b43:Nat) (_:V1) (b44:Nat) (_:V1) (b45:Nat) (_:V1) (b46:Nat) (_:V1) (b47:Nat) (_:V1) (b48:Nat) (_:V1) (b49:Nat) (_:V1) (b50:Nat) (_:V1) (b51:Nat) (_:V1) (b52:Nat) (_:V1) (b53:Nat) (_:V1) (b54:Nat) (_:V1) (TR:Nat) (_:V1) (TS:Nat) (_:V1) (b57:Nat) (_:V1) (b58:Nat) (_:V1) (b59:Nat) (_:V1) (b60:Nat) (_:V1) (b61:Nat) (_:V1) (b62:Nat) (_:V1) (b63:Nat) (_:V1) (b64:Nat) (_:V1) (b65:Nat) (_:V1) (b66:Nat) (_:V1) (V9:Nat) (_:V1) (V_:Nat) (_:V1) (b69:Nat) (_:V1) (b70:Nat) (_:V1) (b71:Nat) (_:V1) (b72:Nat) (_:V1) (b73:Nat) (Y2:V1) (Y3:Nat),ax (.pointer (some ⟨Y3,0,none⟩)) [aq b0 true ([.int .u64 7640891576956012808,.int .u64 13503953896175478587,.int .u64 4354685564936845355,.int .u64 11912009170470909681,.int .u64 5840696475078001361,.int .u64 11170449401992604703,.int .u64 2270897969802886507,.int .u64 6620516959819538809]),aq b1 true ([.int .u32 1779033703]),au true 115 1 v7.v 8 (aK 8 [aJ .u32 1 (ao (ao (ao (ao (ao (ao (ao (ao (fun _=>0) 0 1779033703) 1 3144134277) 2 1013904242) 3 2773480762) 4 1359893119) 5 2600822924) 6 528734635) 7 1541459225)]),aq b2 true ([.int .u32 3144134277]),aq b3 true ([.int .u32 1013904242]),aq b4 true ([.int .u32 2773480762]),aq b5 true ([.int .u32 1359893119]),aq b6 true ([.int .u32 2600822924]),aq b7 true ([.int .u32 528734635]),aq b8 true ([.int .u32 1541459225]),aq b9 true ([.int .u64 4794697086780616226,.int .u64 8158064640168781261,.int .u64 13096744586834688815,.int .u64 16840607885511220156,.int .u64 4131703408338449720,.int .u64 6480981068601479193,.int .u64 10538285296894168987,.int .u64 12329834152419229976,.int .u64 15566598209576043074,.int .u64 1334009975649890238,.int .u64 2608012711638119052,.int .u64 6128411473006802146,.int .u64 8268148722764581231,.int .u64 9286055187155687089,.int .u64 11230858885718282805,.int .u64 13951009754708518548,.int .u64 16472876342353939154,.int .u64 17275323862435702243,.int .u64 1135362057144423861,.int .u64 2597628984639134821,.int .u64 3308224258029322869,.int .u64 5365058923640841347,.int .u64 6679025012923562964,.int .u64 8573033837759648693,.int .u64 10970295158949994411,.int .u64 12119686244451234320,.int .u64 12683024718118986047,.int .u64 13788192230050041572,.int .u64 14330467153632333762,.int .u64 15395433587784984357,.int .u64 489312712824947311,.int .u64 1452737877330783856,.int .u64 2861767655752347644,.int .u64 3322285676063803686,.int .u64 5560940570517711597,.int .u64 5996557281743188959,.int .u64 7280758554555802590,.int .u64 8532644243296465576,.int .u64 9350256976987008742,.int .u64 10552545826968843579,.int .u64 11727347734174303076,.int .u64 12113106623233404929,.int .u64 14000437183269869457,.int .u64 14369950271660146224,.int .u64 15101387698204529176,.int .u64 15463397548674623760,.int .u64 17586052441742319658,.int .u64 1182934255886127544,.int .u64 1847814050463011016,.int .u64 2177327727835720531,.int .u64 2830643537854262169,.int .u64 3796741975233480872,.int .u64 4115178125766777443,.int .u64 5681478168544905931,.int .u64 6601373596472566643,.int .u64 7507060721942968483,.int .u64 8399075790359081724,.int .u64 8693463985226723168,.int .u64 9568029438360202098,.int .u64 10144078919501101548,.int .u64 10430055236837252648,.int .u64 11840083180663258601,.int .u64 13761210420658862357,.int .u64 14299343276471374635,.int .u64 14566680578165727644,.int .u64 15097957966210449927,.int .u64 16922976911328602910,.int .u64 17689382322260857208,.int .u64 500013540394364858,.int .u64 748580250866718886,.int .u64 1242879168328830382,.int .u64 1977374033974150939,.int .u64 2944078676154940804,.int .u64 3659926193048069267,.int .u64 4368137639120453308,.int .u64 4836135668995329356,.int .u64 5532061633213252278,.int .u64 6448918945643986474,.int .u64 6902733635092675308,.int .u64 7801388544844847127]),aq Oi true ([.int .u32 1116352408]),au true 115 1 Y2.v 64 (aK 64 [aJ .u32 1 (ao (ao (ao (ao (ao (ao (ao (ao (ao (ao (ao (ao (ao (ao (ao (ao (ao (ao (ao (ao (ao (ao (ao (ao (ao (ao (ao (ao (ao (ao (ao (ao (ao (ao (ao (ao (ao (ao (ao (ao (ao (ao (ao (ao (ao (ao (ao (ao (ao (ao (ao (ao (ao (ao (ao (ao (ao (ao (ao (ao (ao (ao (ao (ao (fun _=>0) 0 1116352408) 1 1899447441) 2 3049323471) 3 3921009573) 4 961987163) 5 1508970993) 6 2453635748) 7 2870763221) 8 3624381080) 9 310598401) 10 607225278) 11 1426881987) 12 1925078388) 13 2162078206) 14 2614888103) 15 3248222580) 16 3835390401) 17 4022224774) 18 264347078) 19 604807628) 20 770255983) 21 1249150122) 22 1555081692) 23 1996064986) 24 2554220882) 25 2821834349) 26 2952996808) 27 3210313671) 28 3336571891) 29 3584528711) 30 113926993) 31 338241895) 32 666307205) 33 773529912) 34 1294757372) 35 1396182291) 36 1695183700) 37 1986661051) 38 2177026350) 39 2456956037) 40 2730485921) 41 2820302411) 42 3259730800) 43 3345764771) 44 3516065817) 45 3600352804) 46 4094571909) 47 275423344) 48 430227734) 49 506948616) 50 659060556) 51 883997877) 52 958139571) 53 1322822218) 54 1537002063) 55 1747873779) 56 1955562222) 57 2024104815) 58 2227730452) 59 2361852424) 60 2428436474) 61 2756734187) 62 3204031479) 63 3329325298)]),aq Wa true ([.int .u32 1899447441]),aq QE true ([.int .u32 3049323471]),aq Oj true ([.int .u32 3921009573]),aq KJ true ([.int .u32 961987163]),aq KK true ([.int .u32 1508970993]),aq Dg true ([.int .u32 2453635748]),aq QF true ([.int .u32 2870763221]),aq KH true ([.int .u32 3624381080]),aq CX true ([.int .u32 310598401]),aq zd true ([.int .u32 607225278]),aq NP true ([.int .u32 1426881987]),aq Z6 true ([.int .u32 1925078388]),aq Z7 true ([.int .u32 2162078206]),aq Z8 true ([.int .u32 2614888103]),aq Z9 true ([.int .u32 3248222580]),aq Z_ true ([.int .u32 3835390401]),aq b27 true ([.int .u32 4022224774]),aq b28 true ([.int .u32 264347078]),aq b29 true ([.int .u32 604807628]),aq b30 true ([.int .u32 770255983]),aq b31 true ([.int .u32 1249150122]),aq b32 true ([.int .u32 1555081692]),aq b33 true ([.int .u32 1996064986]),aq b34 true ([.int .u32 2554220882]),aq b35 true ([.int .u32 2821834349]),aq b36 true ([.int .u32 2952996808]),aq b37 true ([.int .u32 3210313671]),aq b38 true ([.int .u32 3336571891]),aq b39 true ([.int .u32 3584528711]),aq b40 true ([.int .u32 113926993]),aq b41 true ([.int .u32 338241895]),aq b42 true ([.int .u32 666307205]),aq b43 true ([.int .u32 773529912]),aq b44 true ([.int .u32 1294757372]),aq b45 true ([.int .u32 1396182291]),aq b46 true ([.int .u32 1695183700]),aq b47 true ([.int .u32 1986661051]),aq b48 true ([.int .u32 2177026350]),aq b49 true ([.int .u32 2456956037]),aq b50 true ([.int .u32 2730485921]),aq b51 true ([.int .u32 2820302411]),aq b52 true ([.int .u32 3259730800]),aq b53 true ([.int .u32 3345764771]),aq b54 true ([.int .u32 3516065817]),aq TR true ([.int .u32 3600352804]),aq TS true ([.int .u32 4094571909]),aq b57 true ([.int .u32 275423344]),aq b58 true ([.int .u32 430227734]),aq b59 true ([.int .u32 506948616]),aq b60 true ([.int .u32 659060556]),aq b61 true ([.int .u32 883997877]),aq b62 true ([.int .u32 958139571]),aq b63 true ([.int .u32 1322822218]),aq b64 true ([.int .u32 1537002063]),aq b65 true ([.int .u32 1747873779]),aq b66 true ([.int .u32 1955562222]),aq V9 true ([.int .u32 2024104815]),aq V_ true ([.int .u32 2227730452]),aq b69 true ([.int .u32 2361852424]),aq b70 true ([.int .u32 2428436474]),aq b71 true ([.int .u32 2756734187]),aq b72 true ([.int .u32 3204031479]),aq b73 true ([.int .u32 3329325298]),aq Y3 true ([v7.v,Y2.v,.int .i64 4,.int .i64 2,.int .i64 13,.int .i64 22,.int .i64 6,.int .i64 11,.int .i64 25,.int .i64 7,.int .i64 18,.int .i64 3,.int .i64 17,.int .i64 19,.int .i64 10])]
theorem I6(ax:PT)(h:zZ ax):ar adE 60 [] [] ax:=
 NQ (C:=Fm.cx) [] [] ⟨0,0,0,0,0,0,0⟩ ⟨[],[],[],[],[],[],[],[]⟩ Try.func60 (by kernel_rfl) h
def tf(ax:PT)(x0 x1:Int)(A0 A1 A2 A3:Nat→Int)(v0 v1 v2 v3:V1)(b0 b1:Nat):Prop:=
 aw (0≤x0) (
 fx x0 (
 ∀v4:V1,∃(bN:Ext→Prop) (bY:Ext→Nat),(∃(v5:V1) (x2:Int) (A4 A5:Nat→Int),v5=v4∧(∀j,j<8→A5 j=A0 j)∧v5=v4∧x2=x0∧(∀j,j<(ag x2)→A4 j=A2 j)∧bN ⟨[],[v5],[x2],[A4,A5],[],[],[]⟩)∧
 ∀(v5:V1) (x2:Int) (A4 A5:Nat→Int),bN ⟨[],[v5],[x2],[A4,A5],[],[],[]⟩→
 aw (0≤x2) (
 aZ (64≤x2) (
 Cl 73 [.pointer (some ⟨b0,0,none⟩),(aC 1 v5.v 0 64 none)] [aq b0 true ([v0.v,v1.v,.int .i64 4,.int .i64 2,.int .i64 13,.int .i64 22,.int .i64 6,.int .i64 11,.int .i64 25,.int .i64 7,.int .i64 18,.int .i64 3,.int .i64 17,.int .i64 19,.int .i64 10]),au true 115 1 v0.v 8 (aK 8 [aJ .u32 1 A5]),au true 115 1 v1.v 64 (aK 64 [aJ .u32 1 A1]),bo v5 x2 A4] fun x hs _=> ∃A6:(Nat→Int),x= .tuple #[]∧hs=[aq b0 true ([v0.v,v1.v,.int .i64 4,.int .i64 2,.int .i64 13,.int .i64 22,.int .i64 6,.int .i64 11,.int .i64 25,.int .i64 7,.int .i64 18,.int .i64 3,.int .i64 17,.int .i64 19,.int .i64 10]),au true 115 1 v0.v 8 (aK 8 [aJ .u32 1 A6]),au true 115 1 v1.v 64 (aK 64 [aJ .u32 1 A1]),bo v5 x2 A4]∧
 aw (64≤x2) (
 aw (0≤(x2 - 64)) (
 ∀v6:V1,∃(Bg:V1) (gQ:Int) (tb tc:Nat→Int),Bg=v6∧(∀j,j<8→tc j=A6 j)∧Bg=v6∧gQ=(x2 - 64)∧(∀j,j<(ag gQ)→tb j=(aE A4 64) j)∧bN ⟨[],[Bg],[gQ],[tb,tc],[],[],[]⟩∧bY ⟨[],[Bg],[gQ],[tb,tc],[],[],[]⟩<bY ⟨[],[v5],[x2],[A4,A5],[],[],[]⟩))) (
 aw (0≤x1) (
 fx (x2+x1) (
 ∀v6:V1,∃(ez:Ext→Prop) (gT:Ext→Nat),(∃(v7:V1) (x3:Int) (A6 A7:Nat→Int),v7=v6∧(∀j,j<8→A7 j=A5 j)∧v7=v6∧x3=(x2+x1)∧(∀j,j<(ag x3)→A6 j=(aA A4 (ag x2) (ag x1) A3) j)∧ez ⟨[],[v7],[x3],[A6,A7],[],[],[]⟩)∧
 ∀(v7:V1) (x3:Int) (A6 A7:Nat→Int),ez ⟨[],[v7],[x3],[A6,A7],[],[],[]⟩→
 aw (0≤x3) (
 aZ (64≤x3) (
 Cl 73 [.pointer (some ⟨b0,0,none⟩),(aC 1 v7.v 0 64 none)] [aq b0 true ([v0.v,v1.v,.int .i64 4,.int .i64 2,.int .i64 13,.int .i64 22,.int .i64 6,.int .i64 11,.int .i64 25,.int .i64 7,.int .i64 18,.int .i64 3,.int .i64 17,.int .i64 19,.int .i64 10]),au true 115 1 v0.v 8 (aK 8 [aJ .u32 1 A7]),au true 115 1 v1.v 64 (aK 64 [aJ .u32 1 A1]),bo v7 x3 A6] fun x hs _=> ∃A8:(Nat→Int),x= .tuple #[]∧hs=[aq b0 true ([v0.v,v1.v,.int .i64 4,.int .i64 2,.int .i64 13,.int .i64 22,.int .i64 6,.int .i64 11,.int .i64 25,.int .i64 7,.int .i64 18,.int .i64 3,.int .i64 17,.int .i64 19,.int .i64 10]),au true 115 1 v0.v 8 (aK 8 [aJ .u32 1 A8]),au true 115 1 v1.v 64 (aK 64 [aJ .u32 1 A1]),bo v7 x3 A6]∧
 aw (64≤x3) (
 aw (0≤(x3 - 64)) (
 ∀v8:V1,∃(Ol:V1) (fO:Int) (qT tg:Nat→Int),Ol=v8∧(∀j,j<8→tg j=A8 j)∧Ol=v8∧fO=(x3 - 64)∧(∀j,j<(ag fO)→qT j=(aE A6 64) j)∧ez ⟨[],[Ol],[fO],[qT,tg],[],[],[]⟩∧gT ⟨[],[Ol],[fO],[qT,tg],[],[],[]⟩<gT ⟨[],[v7],[x3],[A6,A7],[],[],[]⟩))) (
 ∀b2:Nat,fx (x3+1) (
 ∀v8:V1,∃(eV:Ext→Prop) (iH:Ext→Nat),(∃(v9:V1) (x4:Int) (A8:Nat→Int),v9=v8∧v9=v8∧x4=(x3+1)∧(∀j,j<(ag x4)→A8 j=(aA A6 (ag x3) 1 (ao (fun _=>0) 0 128)) j)∧eV ⟨[],[v9],[x4],[A8],[],[],[]⟩)∧
 ∀(v9:V1) (x4:Int) (A8:Nat→Int),eV ⟨[],[v9],[x4],[A8],[],[],[]⟩→
 aw (0≤x4) (
 eJ (x4+8) ((
 aZ (¬((ak .rem .i64 (x4+8) 64)=0)) (
 ∀_:Nat,fx ((x4+1)*1) (
 ∀v10:V1,∃(Om:V1) (eW:Int) (wO:Nat→Int),Om=v10∧Om=v10∧eW=(x4+1)∧(∀j,j<(ag eW)→wO j=(ao A8 (ag x4) 0) j)∧eV ⟨[],[Om],[eW],[wO],[],[],[]⟩∧iH ⟨[],[Om],[eW],[wO],[],[],[]⟩<iH ⟨[],[v9],[x4],[A8],[],[],[]⟩)) (
 ∀v10:V1,fx (x4+8) (
 ∀v11:V1,∃(dt:Ext→Prop) (eS:Ext→Nat),(∃(gI:V1) (x5:Int) (A9 br:Nat→Int),gI=v11∧(∀j,j<8→br j=A7 j)∧gI=v11∧x5=(x4+8)∧(∀j,j<(ag x5)→A9 j=(aA A8 (ag x4) 8 (ao (ao (ao (ao (ao (ao (ao (ao (fun _=>0) 7 (ae .u8 (ak .shr .u64 (ak .shl .u64 (ae .u64 ((ae .u64 (ae .u64 x0))+(ae .u64 x1))) 3) 0))) 6 (ae .u8 (ak .shr .u64 (ak .shl .u64 (ae .u64 ((ae .u64 (ae .u64 x0))+(ae .u64 x1))) 3) 8))) 5 (ae .u8 (ak .shr .u64 (ak .shl .u64 (ae .u64 ((ae .u64 (ae .u64 x0))+(ae .u64 x1))) 3) 16))) 4 (ae .u8 (ak .shr .u64 (ak .shl .u64 (ae .u64 ((ae .u64 (ae .u64 x0))+(ae .u64 x1))) 3) 24))) 3 (ae .u8 (ak .shr .u64 (ak .shl .u64 (ae .u64 ((ae .u64 (ae .u64 x0))+(ae .u64 x1))) 3) 32))) 2 (ae .u8 (ak .shr .u64 (ak .shl .u64 (ae .u64 ((ae .u64 (ae .u64 x0))+(ae .u64 x1))) 3) 40))) 1 (ae .u8 (ak .shr .u64 (ak .shl .u64 (ae .u64 ((ae .u64 (ae .u64 x0))+(ae .u64 x1))) 3) 48))) 0 (ae .u8 (ak .shr .u64 (ak .shl .u64 (ae .u64 ((ae .u64 (ae .u64 x0))+(ae .u64 x1))) 3) 56)))) j)∧dt ⟨[],[gI],[x5],[A9,br],[],[],[]⟩)∧
 ∀(gI:V1) (x5:Int) (A9 br:Nat→Int),dt ⟨[],[gI],[x5],[A9,br],[],[],[]⟩→
 aw (0≤x5) (
 aZ (0<x5) (
 aw (64≤x5) (
 Cl 73 [.pointer (some ⟨b0,0,none⟩),(aC 1 gI.v 0 64 none)] [aq b0 true ([v0.v,v1.v,.int .i64 4,.int .i64 2,.int .i64 13,.int .i64 22,.int .i64 6,.int .i64 11,.int .i64 25,.int .i64 7,.int .i64 18,.int .i64 3,.int .i64 17,.int .i64 19,.int .i64 10]),au true 115 1 v0.v 8 (aK 8 [aJ .u32 1 br]),au true 115 1 v1.v 64 (aK 64 [aJ .u32 1 A1]),bo gI x5 A9] fun x hs _=> ∃jM:(Nat→Int),x= .tuple #[]∧hs=[aq b0 true ([v0.v,v1.v,.int .i64 4,.int .i64 2,.int .i64 13,.int .i64 22,.int .i64 6,.int .i64 11,.int .i64 25,.int .i64 7,.int .i64 18,.int .i64 3,.int .i64 17,.int .i64 19,.int .i64 10]),au true 115 1 v0.v 8 (aK 8 [aJ .u32 1 jM]),au true 115 1 v1.v 64 (aK 64 [aJ .u32 1 A1]),bo gI x5 A9]∧
 aw (64≤x5) (
 aw (0≤(x5 - 64)) (
 ∀jm:V1,∃(nA:V1) (gH:Int) (tj jr:Nat→Int),nA=jm∧(∀j,j<8→jr j=jM j)∧nA=jm∧gH=(x5 - 64)∧(∀j,j<(ag gH)→tj j=(aE A9 64) j)∧dt ⟨[],[nA],[gH],[tj,jr],[],[],[]⟩∧eS ⟨[],[nA],[gH],[tj,jr],[],[],[]⟩<eS ⟨[],[gI],[x5],[A9,br],[],[],[]⟩)))) (
 ∀(b3:Nat) (_:V1) (_:Nat) (_:V1) (_:Nat) (_:V1) (_:Nat) (_:V1) (_:Nat) (_:V1) (_:Nat) (_:V1) (_:Nat) (_:V1) (_:Nat) (_:V1) (_:Nat) (_:V1) (_:Nat) (_:V1) (_:Nat) (_:V1) (_:Nat) (_:V1) (_:Nat) (_:V1) (_:Nat) (_:V1) (_:Nat) (_:V1) (_:Nat) (_:V1) (_:Nat) (_:V1) (_:Nat) (_:V1) (_:Nat) (_:V1) (_:Nat) (_:V1) (_:Nat) (_:V1) (_:Nat) (_:V1) (_:Nat) (_:V1) (_:Nat) (_:V1) (_:Nat) (_:V1) (_:Nat) (_:V1) (_:Nat) (_:V1) (_:Nat) (_:V1) (_:Nat) (_:V1) (_:Nat) (_:V1) (_:Nat) (_:V1) (_:Nat) (Y4:V1),ax (Y4.v) [aq b0 true ([v0.v,v1.v,.int .i64 4,.int .i64 2,.int .i64 13,.int .i64 22,.int .i64 6,.int .i64 11,.int .i64 25,.int .i64 7,.int .i64 18,.int .i64 3,.int .i64 17,.int .i64 19,.int .i64 10]),au true 115 1 v0.v 8 (aK 8 [aJ .u32 1 br]),au true 115 1 v1.v 64 (aK 64 [aJ .u32 1 A1]),aq b1 true ([v2.v,v3.v]),bi v2 x0 A2,bi v3 x1 A3,bo gI x5 A9,aq b2 true ([.int .u8 128]),bn true v10 8 (ao (ao (ao (ao (ao (ao (ao (ao (fun _=>0) 7 (ae .u8 (ak .shr .u64 (ak .shl .u64 (ae .u64 ((ae .u64 (ae .u64 x0))+(ae .u64 x1))) 3) 0))) 6 (ae .u8 (ak .shr .u64 (ak .shl .u64 (ae .u64 ((ae .u64 (ae .u64 x0))+(ae .u64 x1))) 3) 8))) 5 (ae .u8 (ak .shr .u64 (ak .shl .u64 (ae .u64 ((ae .u64 (ae .u64 x0))+(ae .u64 x1))) 3) 16))) 4 (ae .u8 (ak .shr .u64 (ak .shl .u64 (ae .u64 ((ae .u64 (ae .u64 x0))+(ae .u64 x1))) 3) 24))) 3 (ae .u8 (ak .shr .u64 (ak .shl .u64 (ae .u64 ((ae .u64 (ae .u64 x0))+(ae .u64 x1))) 3) 32))) 2 (ae .u8 (ak .shr .u64 (ak .shl .u64 (ae .u64 ((ae .u64 (ae .u64 x0))+(ae .u64 x1))) 3) 40))) 1 (ae .u8 (ak .shr .u64 (ak .shl .u64 (ae .u64 ((ae .u64 (ae .u64 x0))+(ae .u64 x1))) 3) 48))) 0 (ae .u8 (ak .shr .u64 (ak .shl .u64 (ae .u64 ((ae .u64 (ae .u64 x0))+(ae .u64 x1))) 3) 56))),aq b3 true ([.int .u8 (ae .u8 (ak .shr .u32 (br 0) 24))]),bn true Y4 32 (ao (ao (ao (ao (ao (ao (ao (ao (ao (ao (ao (ao (ao (ao (ao (ao (ao (ao (ao (ao (ao (ao (ao (ao (ao (ao (ao (ao (ao (ao (ao (ao (fun _=>0) 0 (ae .u8 (ak .shr .u32 (br 0) 24))) 1 (ae .u8 (ak .shr .u32 (br 0) 16))) 2 (ae .u8 (ak .shr .u32 (br 0) 8))) 3 (ae .u8 (ak .shr .u32 (br 0) 0))) 4 (ae .u8 (ak .shr .u32 (br 1) 24))) 5 (ae .u8 (ak .shr .u32 (br 1) 16))) 6 (ae .u8 (ak .shr .u32 (br 1) 8))) 7 (ae .u8 (ak .shr .u32 (br 1) 0))) 8 (ae .u8 (ak .shr .u32 (br 2) 24))) 9 (ae .u8 (ak .shr .u32 (br 2) 16))) 10 (ae .u8 (ak .shr .u32 (br 2) 8))) 11 (ae .u8 (ak .shr .u32 (br 2) 0))) 12 (ae .u8 (ak .shr .u32 (br 3) 24))) 13 (ae .u8 (ak .shr .u32 (br 3) 16))) 14 (ae .u8 (ak .shr .u32 (br 3) 8))) 15 (ae .u8 (ak .shr .u32 (br 3) 0))) 16 (ae .u8 (ak .shr .u32 (br 4) 24))) 17 (ae .u8 (ak .shr .u32 (br 4) 16))) 18 (ae .u8 (ak .shr .u32 (br 4) 8))) 19 (ae .u8 (ak .shr .u32 (br 4) 0))) 20 (ae .u8 (ak .shr .u32 (br 5) 24))) 21 (ae .u8 (ak .shr .u32 (br 5) 16))) 22 (ae .u8 (ak .shr .u32 (br 5) 8))) 23 (ae .u8 (ak .shr .u32 (br 5) 0))) 24 (ae .u8 (ak .shr .u32 (br 6) 24))) 25 (ae .u8 (ak .shr .u32 (br 6) 16))) 26 (ae .u8 (ak .shr .u32 (br 6) 8))) 27 (ae .u8 (ak .shr .u32 (br 6) 0))) 28 (ae .u8 (ak .shr .u32 (br 7) 24))) 29 (ae .u8 (ak .shr .u32 (br 7) 16))) 30 (ae .u8 (ak .shr .u32 (br 7) 8))) 31 (ae .u8 (ak .shr .u32 (br 7) 0)))]))))))))))))))))
theorem z7(ax:PT)(x0 x1:Int)(A0 A1 A2 A3:Nat→Int)(v0 v1 v2 v3:V1)(b0 b1:Nat)(h:tf ax x0 x1 A0 A1 A2 A3 v0 v1 v2 v3 b0 b1):ar adE 61 [.pointer (some ⟨b0,0,none⟩),.slice (some ⟨b1,0,none⟩) 2 2] [aq b0 true ([v0.v,v1.v,.int .i64 4,.int .i64 2,.int .i64 13,.int .i64 22,.int .i64 6,.int .i64 11,.int .i64 25,.int .i64 7,.int .i64 18,.int .i64 3,.int .i64 17,.int .i64 19,.int .i64 10]),au true 115 1 v0.v 8 (aK 8 [aJ .u32 1 A0]),au true 115 1 v1.v 64 (aK 64 [aJ .u32 1 A1]),aq b1 true ([v2.v,v3.v]),bi v2 x0 A2,bi v3 x1 A3] ax:=
 Bf (C:=Fm.cx) [.ptr 0 0,.sl 1 (.lit 0) 1 (.lit 2) (.lit 2)] [.row 0 true [.vv 0,.vv 1,.int .i64 (.lit 4),.int .i64 (.lit 2),.int .i64 (.lit 13),.int .i64 (.lit 22),.int .i64 (.lit 6),.int .i64 (.lit 11),.int .i64 (.lit 25),.int .i64 (.lit 7),.int .i64 (.lit 18),.int .i64 (.lit 3),.int .i64 (.lit 17),.int .i64 (.lit 19),.int .i64 (.lit 10)],.bu true 0 115 1 (.lit 8) [⟨.int .u32,1,.aO 0⟩],.bu true 1 115 1 (.lit 64) [⟨.int .u32,1,.aO 1⟩],.row 1 true [.vv 2,.vv 3],.bu false 2 5 1 (.var 0) [⟨.int .u8,1,.aO 2⟩],.bu false 3 5 1 (.var 1) [⟨.int .u8,1,.aO 3⟩]] ⟨2,4,2,4,0,0,0⟩ ⟨[x0,x1],[A0,A1,A2,A3],[],[b0,b1],[v0,v1,v2,v3],[],[],[]⟩ 11 Try.func61 (by kernel_rfl) h
def z9(ax:PT)(x0 x1 x2 x3 x4 x5 x6:Int)(A0 A1 A2 A3 A4 A5 A6 A7 A8:Nat→Int)(v0 v1 v2 v3 v4 v5 v6 v7 v8 v9:V1)(b0:Nat):Prop:=
 aw (0≤x0) (
 fx x0 (
 ∀v10:V1,∃(bN:Ext→Prop) (bY:Ext→Nat),(∃(v11:V1) (x7:Int) (A9 br:Nat→Int),v11=v10∧(∀j,j<8→br j=A0 j)∧v11=v10∧x7=x0∧(∀j,j<(ag x7)→A9 j=A2 j)∧bN ⟨[],[v11],[x7],[A9,br],[],[],[]⟩)∧
 ∀(v11:V1) (x7:Int) (A9 br:Nat→Int),bN ⟨[],[v11],[x7],[A9,br],[],[],[]⟩→
 aw (0≤x7) (
 aZ (64≤x7) (
 Cl 73 [.pointer (some ⟨b0,0,none⟩),(aC 1 v11.v 0 64 none)] [aq b0 true ([v0.v,v1.v,.int .i64 4,.int .i64 2,.int .i64 13,.int .i64 22,.int .i64 6,.int .i64 11,.int .i64 25,.int .i64 7,.int .i64 18,.int .i64 3,.int .i64 17,.int .i64 19,.int .i64 10]),au true 115 1 v0.v 8 (aK 8 [aJ .u32 1 br]),au true 115 1 v1.v 64 (aK 64 [aJ .u32 1 A1]),bo v11 x7 A9] fun x hs _=> ∃jM:(Nat→Int),x= .tuple #[]∧hs=[aq b0 true ([v0.v,v1.v,.int .i64 4,.int .i64 2,.int .i64 13,.int .i64 22,.int .i64 6,.int .i64 11,.int .i64 25,.int .i64 7,.int .i64 18,.int .i64 3,.int .i64 17,.int .i64 19,.int .i64 10]),au true 115 1 v0.v 8 (aK 8 [aJ .u32 1 jM]),au true 115 1 v1.v 64 (aK 64 [aJ .u32 1 A1]),bo v11 x7 A9]∧
 aw (64≤x7) (
 aw (0≤(x7 - 64)) (
 ∀gI:V1,∃(On:V1) (ze:Int) (tj jr:Nat→Int),On=gI∧(∀j,j<8→jr j=jM j)∧On=gI∧ze=(x7 - 64)∧(∀j,j<(ag ze)→tj j=(aE A9 64) j)∧bN ⟨[],[On],[ze],[tj,jr],[],[],[]⟩∧bY ⟨[],[On],[ze],[tj,jr],[],[],[]⟩<bY ⟨[],[v11],[x7],[A9,br],[],[],[]⟩))) (
 aw (0≤x1) (
 fx (x7+x1) (
 ∀gI:V1,∃(ez:Ext→Prop) (gT:Ext→Nat),(∃(jm:V1) (x8:Int) (jM lG:Nat→Int),jm=gI∧(∀j,j<8→lG j=br j)∧jm=gI∧x8=(x7+x1)∧(∀j,j<(ag x8)→jM j=(aA A9 (ag x7) (ag x1) A3) j)∧ez ⟨[],[jm],[x8],[jM,lG],[],[],[]⟩)∧
 ∀(jm:V1) (x8:Int) (jM lG:Nat→Int),ez ⟨[],[jm],[x8],[jM,lG],[],[],[]⟩→
 aw (0≤x8) (
 aZ (64≤x8) (
 Cl 73 [.pointer (some ⟨b0,0,none⟩),(aC 1 jm.v 0 64 none)] [aq b0 true ([v0.v,v1.v,.int .i64 4,.int .i64 2,.int .i64 13,.int .i64 22,.int .i64 6,.int .i64 11,.int .i64 25,.int .i64 7,.int .i64 18,.int .i64 3,.int .i64 17,.int .i64 19,.int .i64 10]),au true 115 1 v0.v 8 (aK 8 [aJ .u32 1 lG]),au true 115 1 v1.v 64 (aK 64 [aJ .u32 1 A1]),bo jm x8 jM] fun x hs _=> ∃ov:(Nat→Int),x= .tuple #[]∧hs=[aq b0 true ([v0.v,v1.v,.int .i64 4,.int .i64 2,.int .i64 13,.int .i64 22,.int .i64 6,.int .i64 11,.int .i64 25,.int .i64 7,.int .i64 18,.int .i64 3,.int .i64 17,.int .i64 19,.int .i64 10]),au true 115 1 v0.v 8 (aK 8 [aJ .u32 1 ov]),au true 115 1 v1.v 64 (aK 64 [aJ .u32 1 A1]),bo jm x8 jM]∧
 aw (64≤x8) (
 aw (0≤(x8 - 64)) (
 ∀qq:V1,∃(rL:V1) (zf:Int) (wP wQ:Nat→Int),rL=qq∧(∀j,j<8→wQ j=ov j)∧rL=qq∧zf=(x8 - 64)∧(∀j,j<(ag zf)→wP j=(aE jM 64) j)∧ez ⟨[],[rL],[zf],[wP,wQ],[],[],[]⟩∧gT ⟨[],[rL],[zf],[wP,wQ],[],[],[]⟩<gT ⟨[],[jm],[x8],[jM,lG],[],[],[]⟩))) (
 aw (0≤x2) (
 fx (x8+x2) (
 ∀qq:V1,∃(eV:Ext→Prop) (iH:Ext→Nat),(∃(zj:V1) (x9:Int) (ov qx:Nat→Int),zj=qq∧(∀j,j<8→qx j=lG j)∧zj=qq∧x9=(x8+x2)∧(∀j,j<(ag x9)→ov j=(aA jM (ag x8) (ag x2) A4) j)∧eV ⟨[],[zj],[x9],[ov,qx],[],[],[]⟩)∧
 ∀(zj:V1) (x9:Int) (ov qx:Nat→Int),eV ⟨[],[zj],[x9],[ov,qx],[],[],[]⟩→
 aw (0≤x9) (
 aZ (64≤x9) (
 Cl 73 [.pointer (some ⟨b0,0,none⟩),(aC 1 zj.v 0 64 none)] [aq b0 true ([v0.v,v1.v,.int .i64 4,.int .i64 2,.int .i64 13,.int .i64 22,.int .i64 6,.int .i64 11,.int .i64 25,.int .i64 7,.int .i64 18,.int .i64 3,.int .i64 17,.int .i64 19,.int .i64 10]),au true 115 1 v0.v 8 (aK 8 [aJ .u32 1 qx]),au true 115 1 v1.v 64 (aK 64 [aJ .u32 1 A1]),bo zj x9 ov] fun x hs _=> ∃qy:(Nat→Int),x= .tuple #[]∧hs=[aq b0 true ([v0.v,v1.v,.int .i64 4,.int .i64 2,.int .i64 13,.int .i64 22,.int .i64 6,.int .i64 11,.int .i64 25,.int .i64 7,.int .i64 18,.int .i64 3,.int .i64 17,.int .i64 19,.int .i64 10]),au true 115 1 v0.v 8 (aK 8 [aJ .u32 1 qy]),au true 115 1 v1.v 64 (aK 64 [aJ .u32 1 A1]),bo zj x9 ov]∧
 aw (64≤x9) (
 aw (0≤(x9 - 64)) (
 ∀Bh:V1,∃(Oo:V1) (zg:Int) (wR wS:Nat→Int),Oo=Bh∧(∀j,j<8→wS j=qy j)∧Oo=Bh∧zg=(x9 - 64)∧(∀j,j<(ag zg)→wR j=(aE ov 64) j)∧eV ⟨[],[Oo],[zg],[wR,wS],[],[],[]⟩∧iH ⟨[],[Oo],[zg],[wR,wS],[],[],[]⟩<iH ⟨[],[zj],[x9],[ov,qx],[],[],[]⟩))) (
 aw (0≤x3) (
 fx (x9+x3) (
 ∀Bh:V1,∃(dt:Ext→Prop) (eS:Ext→Nat),(∃(Bi:V1) (eK:Int) (qy cV:Nat→Int),Bi=Bh∧(∀j,j<8→cV j=qx j)∧Bi=Bh∧eK=(x9+x3)∧(∀j,j<(ag eK)→qy j=(aA ov (ag x9) (ag x3) A5) j)∧dt ⟨[],[Bi],[eK],[qy,cV],[],[],[]⟩)∧
 ∀(Bi:V1) (eK:Int) (qy cV:Nat→Int),dt ⟨[],[Bi],[eK],[qy,cV],[],[],[]⟩→
 aw (0≤eK) (
 aZ (64≤eK) (
 Cl 73 [.pointer (some ⟨b0,0,none⟩),(aC 1 Bi.v 0 64 none)] [aq b0 true ([v0.v,v1.v,.int .i64 4,.int .i64 2,.int .i64 13,.int .i64 22,.int .i64 6,.int .i64 11,.int .i64 25,.int .i64 7,.int .i64 18,.int .i64 3,.int .i64 17,.int .i64 19,.int .i64 10]),au true 115 1 v0.v 8 (aK 8 [aJ .u32 1 cV]),au true 115 1 v1.v 64 (aK 64 [aJ .u32 1 A1]),bo Bi eK qy] fun x hs _=> ∃CY:(Nat→Int),x= .tuple #[]∧hs=[aq b0 true ([v0.v,v1.v,.int .i64 4,.int .i64 2,.int .i64 13,.int .i64 22,.int .i64 6,.int .i64 11,.int .i64 25,.int .i64 7,.int .i64 18,.int .i64 3,.int .i64 17,.int .i64 19,.int .i64 10]),au true 115 1 v0.v 8 (aK 8 [aJ .u32 1 CY]),au true 115 1 v1.v 64 (aK 64 [aJ .u32 1 A1]),bo Bi eK qy]∧
 aw (64≤eK) (
 aw (0≤(eK - 64)) (
 ∀K7:V1,∃(Oq:V1) (vO:Int) (wT wU:Nat→Int),Oq=K7∧(∀j,j<8→wU j=CY j)∧Oq=K7∧vO=(eK - 64)∧(∀j,j<(ag vO)→wT j=(aE qy 64) j)∧dt ⟨[],[Oq],[vO],[wT,wU],[],[],[]⟩∧eS ⟨[],[Oq],[vO],[wT,wU],[],[],[]⟩<eS ⟨[],[Bi],[eK],[qy,cV],[],[],[]⟩))) (
 aw (0≤x4) (
 fx (eK+x4) (
 ∀K7:V1,∃(kT:Ext→Prop) (oO:Ext→Nat),(∃(qU:V1) (ib:Int) (CY RA:Nat→Int),qU=K7∧(∀j,j<8→RA j=cV j)∧qU=K7∧ib=(eK+x4)∧(∀j,j<(ag ib)→CY j=(aA qy (ag eK) (ag x4) A6) j)∧kT ⟨[],[qU],[ib],[CY,RA],[],[],[]⟩)∧
 ∀(qU:V1) (ib:Int) (CY RA:Nat→Int),kT ⟨[],[qU],[ib],[CY,RA],[],[],[]⟩→
 aw (0≤ib) (
 aZ (64≤ib) (
 Cl 73 [.pointer (some ⟨b0,0,none⟩),(aC 1 qU.v 0 64 none)] [aq b0 true ([v0.v,v1.v,.int .i64 4,.int .i64 2,.int .i64 13,.int .i64 22,.int .i64 6,.int .i64 11,.int .i64 25,.int .i64 7,.int .i64 18,.int .i64 3,.int .i64 17,.int .i64 19,.int .i64 10]),au true 115 1 v0.v 8 (aK 8 [aJ .u32 1 RA]),au true 115 1 v1.v 64 (aK 64 [aJ .u32 1 A1]),bo qU ib CY] fun x hs _=> ∃KL:(Nat→Int),x= .tuple #[]∧hs=[aq b0 true ([v0.v,v1.v,.int .i64 4,.int .i64 2,.int .i64 13,.int .i64 22,.int .i64 6,.int .i64 11,.int .i64 25,.int .i64 7,.int .i64 18,.int .i64 3,.int .i64 17,.int .i64 19,.int .i64 10]),au true 115 1 v0.v 8 (aK 8 [aJ .u32 1 KL]),au true 115 1 v1.v 64 (aK 64 [aJ .u32 1 A1]),bo qU ib CY]∧
 aw (64≤ib) (
 aw (0≤(ib - 64)) (
 ∀v20:V1,∃(rM:V1) (vP:Int) (RB RC:Nat→Int),rM=v20∧(∀j,j<8→RC j=KL j)∧rM=v20∧vP=(ib - 64)∧(∀j,j<(ag vP)→RB j=(aE CY 64) j)∧kT ⟨[],[rM],[vP],[RB,RC],[],[],[]⟩∧oO ⟨[],[rM],[vP],[RB,RC],[],[],[]⟩<oO ⟨[],[qU],[ib],[CY,RA],[],[],[]⟩))) (
 aw (0≤x5) (
 fx (ib+x5) (
 ∀v20:V1,∃(oP:Ext→Prop) (ux:Ext→Nat),(∃(Ot:V1) (ic:Int) (KL RD:Nat→Int),Ot=v20∧(∀j,j<8→RD j=RA j)∧Ot=v20∧ic=(ib+x5)∧(∀j,j<(ag ic)→KL j=(aA CY (ag ib) (ag x5) A7) j)∧oP ⟨[],[Ot],[ic],[KL,RD],[],[],[]⟩)∧
 ∀(Ot:V1) (ic:Int) (KL RD:Nat→Int),oP ⟨[],[Ot],[ic],[KL,RD],[],[],[]⟩→
 aw (0≤ic) (
 aZ (64≤ic) (
 Cl 73 [.pointer (some ⟨b0,0,none⟩),(aC 1 Ot.v 0 64 none)] [aq b0 true ([v0.v,v1.v,.int .i64 4,.int .i64 2,.int .i64 13,.int .i64 22,.int .i64 6,.int .i64 11,.int .i64 25,.int .i64 7,.int .i64 18,.int .i64 3,.int .i64 17,.int .i64 19,.int .i64 10]),au true 115 1 v0.v 8 (aK 8 [aJ .u32 1 RD]),au true 115 1 v1.v 64 (aK 64 [aJ .u32 1 A1]),bo Ot ic KL] fun x hs _=> ∃KM:(Nat→Int),x= .tuple #[]∧hs=[aq b0 true ([v0.v,v1.v,.int .i64 4,.int .i64 2,.int .i64 13,.int .i64 22,.int .i64 6,.int .i64 11,.int .i64 25,.int .i64 7,.int .i64 18,.int .i64 3,.int .i64 17,.int .i64 19,.int .i64 10]),au true 115 1 v0.v 8 (aK 8 [aJ .u32 1 KM]),au true 115 1 v1.v 64 (aK 64 [aJ .u32 1 A1]),bo Ot ic KL]∧
 aw (64≤ic) (
 aw (0≤(ic - 64)) (
 ∀TU:V1,∃(Ou:V1) (Ov:Int) (RE RF:Nat→Int),Ou=TU∧(∀j,j<8→RF j=KM j)∧Ou=TU∧Ov=(ic - 64)∧(∀j,j<(ag Ov)→RE j=(aE KL 64) j)∧oP ⟨[],[Ou],[Ov],[RE,RF],[],[],[]⟩∧ux ⟨[],[Ou],[Ov],[RE,RF],[],[],[]⟩<ux ⟨[],[Ot],[ic],[KL,RD],[],[],[]⟩))) (
 aw (0≤x6) (
 fx (ic+x6) (
 ∀TU:V1,∃(K8:Ext→Prop) (QG:Ext→Nat),(∃(FJ:V1) (cU:Int) (KM RG:Nat→Int),FJ=TU∧(∀j,j<8→RG j=RD j)∧FJ=TU∧cU=(ic+x6)∧(∀j,j<(ag cU)→KM j=(aA KL (ag ic) (ag x6) A8) j)∧K8 ⟨[],[FJ],[cU],[KM,RG],[],[],[]⟩)∧
 ∀(FJ:V1) (cU:Int) (KM RG:Nat→Int),K8 ⟨[],[FJ],[cU],[KM,RG],[],[],[]⟩→
 aw (0≤cU) (
 aZ (64≤cU) (
 Cl 73 [.pointer (some ⟨b0,0,none⟩),(aC 1 FJ.v 0 64 none)] [aq b0 true ([v0.v,v1.v,.int .i64 4,.int .i64 2,.int .i64 13,.int .i64 22,.int .i64 6,.int .i64 11,.int .i64 25,.int .i64 7,.int .i64 18,.int .i64 3,.int .i64 17,.int .i64 19,.int .i64 10]),au true 115 1 v0.v 8 (aK 8 [aJ .u32 1 RG]),au true 115 1 v1.v 64 (aK 64 [aJ .u32 1 A1]),bo FJ cU KM] fun x hs _=> ∃NR:(Nat→Int),x= .tuple #[]∧hs=[aq b0 true ([v0.v,v1.v,.int .i64 4,.int .i64 2,.int .i64 13,.int .i64 22,.int .i64 6,.int .i64 11,.int .i64 25,.int .i64 7,.int .i64 18,.int .i64 3,.int .i64 17,.int .i64 19,.int .i64 10]),au true 115 1 v0.v 8 (aK 8 [aJ .u32 1 NR]),au true 115 1 v1.v 64 (aK 64 [aJ .u32 1 A1]),bo FJ cU KM]∧
 aw (64≤cU) (
 aw (0≤(cU - 64)) (
 ∀FR:V1,∃(Ow:V1) (Ox:Int) (RH RI:Nat→Int),Ow=FR∧(∀j,j<8→RI j=NR j)∧Ow=FR∧Ox=(cU - 64)∧(∀j,j<(ag Ox)→RH j=(aE KM 64) j)∧K8 ⟨[],[Ow],[Ox],[RH,RI],[],[],[]⟩∧QG ⟨[],[Ow],[Ox],[RH,RI],[],[],[]⟩<QG ⟨[],[FJ],[cU],[KM,RG],[],[],[]⟩))) (
 ∀b1:Nat,fx (cU+1) (
 ∀FR:V1,∃(K9:Ext→Prop) (QH:Ext→Nat),(∃(Ts:V1) (mb:Int) (NR:Nat→Int),Ts=FR∧Ts=FR∧mb=(cU+1)∧(∀j,j<(ag mb)→NR j=(aA KM (ag cU) 1 (ao (fun _=>0) 0 128)) j)∧K9 ⟨[],[Ts],[mb],[NR],[],[],[]⟩)∧
 ∀(Ts:V1) (mb:Int) (NR:Nat→Int),K9 ⟨[],[Ts],[mb],[NR],[],[],[]⟩→
 aw (0≤mb) (
 eJ (mb+8) ((
 aZ (¬((ak .rem .i64 (mb+8) 64)=0)) (
 ∀_:Nat,fx ((mb+1)*1) (
 ∀Wb:V1,∃(Oy:V1) (Oz:Int) (RJ:Nat→Int),Oy=Wb∧Oy=Wb∧Oz=(mb+1)∧(∀j,j<(ag Oz)→RJ j=(ao NR (ag mb) 0) j)∧K9 ⟨[],[Oy],[Oz],[RJ],[],[],[]⟩∧QH ⟨[],[Oy],[Oz],[RJ],[],[],[]⟩<QH ⟨[],[Ts],[mb],[NR],[],[],[]⟩)) (
 ∀Wb:V1,fx (mb+8) (
 ∀Y5:V1,∃(K_:Ext→Prop) (QI:Ext→Nat),(∃(NS:V1) (ji:Int) (OA nq:Nat→Int),NS=Y5∧(∀j,j<8→nq j=RG j)∧NS=Y5∧ji=(mb+8)∧(∀j,j<(ag ji)→OA j=(aA NR (ag mb) 8 (ao (ao (ao (ao (ao (ao (ao (ao (fun _=>0) 7 (ae .u8 (ak .shr .u64 (ak .shl .u64 (ae .u64 ((ae .u64 ((ae .u64 ((ae .u64 ((ae .u64 ((ae .u64 ((ae .u64 (ae .u64 x0))+(ae .u64 x1)))+(ae .u64 x2)))+(ae .u64 x3)))+(ae .u64 x4)))+(ae .u64 x5)))+(ae .u64 x6))) 3) 0))) 6 (ae .u8 (ak .shr .u64 (ak .shl .u64 (ae .u64 ((ae .u64 ((ae .u64 ((ae .u64 ((ae .u64 ((ae .u64 ((ae .u64 (ae .u64 x0))+(ae .u64 x1)))+(ae .u64 x2)))+(ae .u64 x3)))+(ae .u64 x4)))+(ae .u64 x5)))+(ae .u64 x6))) 3) 8))) 5 (ae .u8 (ak .shr .u64 (ak .shl .u64 (ae .u64 ((ae .u64 ((ae .u64 ((ae .u64 ((ae .u64 ((ae .u64 ((ae .u64 (ae .u64 x0))+(ae .u64 x1)))+(ae .u64 x2)))+(ae .u64 x3)))+(ae .u64 x4)))+(ae .u64 x5)))+(ae .u64 x6))) 3) 16))) 4 (ae .u8 (ak .shr .u64 (ak .shl .u64 (ae .u64 ((ae .u64 ((ae .u64 ((ae .u64 ((ae .u64 ((ae .u64 ((ae .u64 (ae .u64 x0))+(ae .u64 x1)))+(ae .u64 x2)))+(ae .u64 x3)))+(ae .u64 x4)))+(ae .u64 x5)))+(ae .u64 x6))) 3) 24))) 3 (ae .u8 (ak .shr .u64 (ak .shl .u64 (ae .u64 ((ae .u64 ((ae .u64 ((ae .u64 ((ae .u64 ((ae .u64 ((ae .u64 (ae .u64 x0))+(ae .u64 x1)))+(ae .u64 x2)))+(ae .u64 x3)))+(ae .u64 x4)))+(ae .u64 x5)))+(ae .u64 x6))) 3) 32))) 2 (ae .u8 (ak .shr .u64 (ak .shl .u64 (ae .u64 ((ae .u64 ((ae .u64 ((ae .u64 ((ae .u64 ((ae .u64 ((ae .u64 (ae .u64 x0))+(ae .u64 x1)))+(ae .u64 x2)))+(ae .u64 x3)))+(ae .u64 x4)))+(ae .u64 x5)))+(ae .u64 x6))) 3) 40))) 1 (ae .u8 (ak .shr .u64 (ak .shl .u64 (ae .u64 ((ae .u64 ((ae .u64 ((ae .u64 ((ae .u64 ((ae .u64 ((ae .u64 (ae .u64 x0))+(ae .u64 x1)))+(ae .u64 x2)))+(ae .u64 x3)))+(ae .u64 x4)))+(ae .u64 x5)))+(ae .u64 x6))) 3) 48))) 0 (ae .u8 (ak .shr .u64 (ak .shl .u64 (ae .u64 ((ae .u64 ((ae .u64 ((ae .u64 ((ae .u64 ((ae .u64 ((ae .u64 (ae .u64 x0))+(ae .u64 x1)))+(ae .u64 x2)))+(ae .u64 x3)))+(ae .u64 x4)))+(ae .u64 x5)))+(ae .u64 x6))) 3) 56)))) j)∧K_ ⟨[],[NS],[ji],[OA,nq],[],[],[]⟩)∧
 ∀(NS:V1) (ji:Int) (OA nq:Nat→Int),K_ ⟨[],[NS],[ji],[OA,nq],[],[],[]⟩→
 aw (0≤ji) (
 aZ (0<ji) (
 aw (64≤ji) (
 Cl 73 [.pointer (some ⟨b0,0,none⟩),(aC 1 NS.v 0 64 none)] [aq b0 true ([v0.v,v1.v,.int .i64 4,.int .i64 2,.int .i64 13,.int .i64 22,.int .i64 6,.int .i64 11,.int .i64 25,.int .i64 7,.int .i64 18,.int .i64 3,.int .i64 17,.int .i64 19,.int .i64 10]),au true 115 1 v0.v 8 (aK 8 [aJ .u32 1 nq]),au true 115 1 v1.v 64 (aK 64 [aJ .u32 1 A1]),bo NS ji OA] fun x hs _=> ∃Y6:(Nat→Int),x= .tuple #[]∧hs=[aq b0 true ([v0.v,v1.v,.int .i64 4,.int .i64 2,.int .i64 13,.int .i64 22,.int .i64 6,.int .i64 11,.int .i64 25,.int .i64 7,.int .i64 18,.int .i64 3,.int .i64 17,.int .i64 19,.int .i64 10]),au true 115 1 v0.v 8 (aK 8 [aJ .u32 1 Y6]),au true 115 1 v1.v 64 (aK 64 [aJ .u32 1 A1]),bo NS ji OA]∧
 aw (64≤ji) (
 aw (0≤(ji - 64)) (
 ∀WO:V1,∃(OB:V1) (OC:Int) (RK RL:Nat→Int),OB=WO∧(∀j,j<8→RL j=Y6 j)∧OB=WO∧OC=(ji - 64)∧(∀j,j<(ag OC)→RK j=(aE OA 64) j)∧K_ ⟨[],[OB],[OC],[RK,RL],[],[],[]⟩∧QI ⟨[],[OB],[OC],[RK,RL],[],[],[]⟩<QI ⟨[],[NS],[ji],[OA,nq],[],[],[]⟩)))) (
 ∀(b2:Nat) (_:V1) (_:Nat) (_:V1) (_:Nat) (_:V1) (_:Nat) (_:V1) (_:Nat) (_:V1) (_:Nat) (_:V1) (_:Nat) (_:V1) (_:Nat) (_:V1) (_:Nat) (_:V1) (_:Nat) (_:V1) (_:Nat) (_:V1) (_:Nat) (_:V1) (_:Nat) (_:V1) (_:Nat) (_:V1) (_:Nat) (_:V1) (_:Nat) (_:V1) (_:Nat) (_:V1) (_:Nat) (_:V1) (_:Nat) (_:V1) (_:Nat) (_:V1) (_:Nat) (_:V1) (_:Nat) (_:V1) (_:Nat) (_:V1) (_:Nat) (_:V1) (_:Nat) (_:V1) (_:Nat) (_:V1) (_:Nat) (_:V1) (_:Nat) (_:V1) (_:Nat) (_:V1) (_:Nat) (_:V1) (_:Nat) (_:V1) (_:Nat) (Y7:V1),ax (Y7.v) [aq b0 true ([v0.v,v1.v,.int .i64 4,.int .i64 2,.int .i64 13,.int .i64 22,.int .i64 6,.int .i64 11,.int .i64 25,.int .i64 7,.int .i64 18,.int .i64 3,.int .i64 17,.int .i64 19,.int .i64 10]),au true 115 1 v0.v 8 (aK 8 [aJ .u32 1 nq]),au true 115 1 v1.v 64 (aK 64 [aJ .u32 1 A1]),au true 23 1 v2.v 7 [v3.v,v4.v,v5.v,v6.v,v7.v,v8.v,v9.v],bi v3 x0 A2,bi v4 x1 A3,bi v5 x2 A4,bi v6 x3 A5,bi v7 x4 A6,bi v8 x5 A7,bi v9 x6 A8,bo NS ji OA,aq b1 true ([.int .u8 128]),bn true Wb 8 (ao (ao (ao (ao (ao (ao (ao (ao (fun _=>0) 7 (ae .u8 (ak .shr .u64 (ak .shl .u64 (ae .u64 ((ae .u64 ((ae .u64 ((ae .u64 ((ae .u64 ((ae .u64 ((ae .u64 (ae .u64 x0))+(ae .u64 x1)))+(ae .u64 x2)))+(ae .u64 x3)))+(ae .u64 x4)))+(ae .u64 x5)))+(ae .u64 x6))) 3) 0))) 6 (ae .u8 (ak .shr .u64 (ak .shl .u64 (ae .u64 ((ae .u64 ((ae .u64 ((ae .u64 ((ae .u64 ((ae .u64 ((ae .u64 (ae .u64 x0))+(ae .u64 x1)))+(ae .u64 x2)))+(ae .u64 x3)))+(ae .u64 x4)))+(ae .u64 x5)))+(ae .u64 x6))) 3) 8))) 5 (ae .u8 (ak .shr .u64 (ak .shl .u64 (ae .u64 ((ae .u64 ((ae .u64 ((ae .u64 ((ae .u64 ((ae .u64 ((ae .u64 (ae .u64 x0))+(ae .u64 x1)))+(ae .u64 x2)))+(ae .u64 x3)))+(ae .u64 x4)))+(ae .u64 x5)))+(ae .u64 x6))) 3) 16))) 4 (ae .u8 (ak .shr .u64 (ak .shl .u64 (ae .u64 ((ae .u64 ((ae .u64 ((ae .u64 ((ae .u64 ((ae .u64 ((ae .u64 (ae .u64 x0))+(ae .u64 x1)))+(ae .u64 x2)))+(ae .u64 x3)))+(ae .u64 x4)))+(ae .u64 x5)))+(ae .u64 x6))) 3) 24))) 3 (ae .u8 (ak .shr .u64 (ak .shl .u64 (ae .u64 ((ae .u64 ((ae .u64 ((ae .u64 ((ae .u64 ((ae .u64 ((ae .u64 (ae .u64 x0))+(ae .u64 x1)))+(ae .u64 x2)))+(ae .u64 x3)))+(ae .u64 x4)))+(ae .u64 x5)))+(ae .u64 x6))) 3) 32))) 2 (ae .u8 (ak .shr .u64 (ak .shl .u64 (ae .u64 ((ae .u64 ((ae .u64 ((ae .u64 ((ae .u64 ((ae .u64 ((ae .u64 (ae .u64 x0))+(ae .u64 x1)))+(ae .u64 x2)))+(ae .u64 x3)))+(ae .u64 x4)))+(ae .u64 x5)))+(ae .u64 x6))) 3) 40))) 1 (ae .u8 (ak .shr .u64 (ak .shl .u64 (ae .u64 ((ae .u64 ((ae .u64 ((ae .u64 ((ae .u64 ((ae .u64 ((ae .u64 (ae .u64 x0))+(ae .u64 x1)))+(ae .u64 x2)))+(ae .u64 x3)))+(ae .u64 x4)))+(ae .u64 x5)))+(ae .u64 x6))) 3) 48))) 0 (ae .u8 (ak .shr .u64 (ak .shl .u64 (ae .u64 ((ae .u64 ((ae .u64 ((ae .u64 ((ae .u64 ((ae .u64 ((ae .u64 (ae .u64 x0))+(ae .u64 x1)))+(ae .u64 x2)))+(ae .u64 x3)))+(ae .u64 x4)))+(ae .u64 x5)))+(ae .u64 x6))) 3) 56))),aq b2 true ([.int .u8 (ae .u8 (ak .shr .u32 (nq 0) 24))]),bn true Y7 32 (ao (ao (ao (ao (ao (ao (ao (ao (ao (ao (ao (ao (ao (ao (ao (ao (ao (ao (ao (ao (ao (ao (ao (ao (ao (ao (ao (ao (ao (ao (ao (ao (fun _=>0) 0 (ae .u8 (ak .shr .u32 (nq 0) 24))) 1 (ae .u8 (ak .shr .u32 (nq 0) 16))) 2 (ae .u8 (ak .shr .u32 (nq 0) 8))) 3 (ae .u8 (ak .shr .u32 (nq 0) 0))) 4 (ae .u8 (ak .shr .u32 (nq 1) 24))) 5 (ae .u8 (ak .shr .u32 (nq 1) 16))) 6 (ae .u8 (ak .shr .u32 (nq 1) 8))) 7 (ae .u8 (ak .shr .u32 (nq 1) 0))) 8 (ae .u8 (ak .shr .u32 (nq 2) 24))) 9 (ae .u8 (ak .shr .u32 (nq 2) 16))) 10 (ae .u8 (ak .shr .u32 (nq 2) 8))) 11 (ae .u8 (ak .shr .u32 (nq 2) 0))) 12 (ae .u8 (ak .shr .u32 (nq 3) 24))) 13 (ae .u8 (ak .shr .u32 (nq 3) 16))) 14 (ae .u8 (ak .shr .u32 (nq 3) 8))) 15 (ae .u8 (ak .shr .u32 (nq 3) 0))) 16 (ae .u8 (ak .shr .u32 (nq 4) 24))) 17 (ae .u8 (ak .shr .u32 (nq 4) 16))) 18 (ae .u8 (ak .shr .u32 (nq 4) 8))) 19 (ae .u8 (ak .shr .u32 (nq 4) 0))) 20 (ae .u8 (ak .shr .u32 (nq 5) 24))) 21 (ae .u8 (ak .shr .u32 (nq 5) 16))) 22 (ae .u8 (ak .shr .u32 (nq 5) 8))) 23 (ae .u8 (ak .shr .u32 (nq 5) 0))) 24 (ae .u8 (ak .shr .u32 (nq 6) 24))) 25 (ae .u8 (ak .shr .u32 (nq 6) 16))) 26 (ae .u8 (ak .shr .u32 (nq 6) 8))) 27 (ae .u8 (ak .shr .u32 (nq 6) 0))) 28 (ae .u8 (ak .shr .u32 (nq 7) 24))) 29 (ae .u8 (ak .shr .u32 (nq 7) 16))) 30 (ae .u8 (ak .shr .u32 (nq 7) 8))) 31 (ae .u8 (ak .shr .u32 (nq 7) 0)))]))))))))))))))))))))))))))))))))))))
theorem I7(ax:PT)(x0 x1 x2 x3 x4 x5 x6:Int)(A0 A1 A2 A3 A4 A5 A6 A7 A8:Nat→Int)(v0 v1 v2 v3 v4 v5 v6 v7 v8 v9:V1)(b0:Nat)(h:z9 ax x0 x1 x2 x3 x4 x5 x6 A0 A1 A2 A3 A4 A5 A6 A7 A8 v0 v1 v2 v3 v4 v5 v6 v7 v8 v9 b0):ar adE 61 [.pointer (some ⟨b0,0,none⟩),v2.v] [aq b0 true ([v0.v,v1.v,.int .i64 4,.int .i64 2,.int .i64 13,.int .i64 22,.int .i64 6,.int .i64 11,.int .i64 25,.int .i64 7,.int .i64 18,.int .i64 3,.int .i64 17,.int .i64 19,.int .i64 10]),au true 115 1 v0.v 8 (aK 8 [aJ .u32 1 A0]),au true 115 1 v1.v 64 (aK 64 [aJ .u32 1 A1]),au true 23 1 v2.v 7 [v3.v,v4.v,v5.v,v6.v,v7.v,v8.v,v9.v],bi v3 x0 A2,bi v4 x1 A3,bi v5 x2 A4,bi v6 x3 A5,bi v7 x4 A6,bi v8 x5 A7,bi v9 x6 A8] ax:=
 Bf (C:=Fm.cx) [.ptr 0 0,.vv 2] [.row 0 true [.vv 0,.vv 1,.int .i64 (.lit 4),.int .i64 (.lit 2),.int .i64 (.lit 13),.int .i64 (.lit 22),.int .i64 (.lit 6),.int .i64 (.lit 11),.int .i64 (.lit 25),.int .i64 (.lit 7),.int .i64 (.lit 18),.int .i64 (.lit 3),.int .i64 (.lit 17),.int .i64 (.lit 19),.int .i64 (.lit 10)],.bu true 0 115 1 (.lit 8) [⟨.int .u32,1,.aO 0⟩],.bu true 1 115 1 (.lit 64) [⟨.int .u32,1,.aO 1⟩],.bu true 2 23 1 (.lit 7) [{ck:=CK.qV [3,4,5,6,7,8,9],w:=1,a:= .lit 0}],.bu false 3 5 1 (.var 0) [⟨.int .u8,1,.aO 2⟩],.bu false 4 5 1 (.var 1) [⟨.int .u8,1,.aO 3⟩],.bu false 5 5 1 (.var 2) [⟨.int .u8,1,.aO 4⟩],.bu false 6 5 1 (.var 3) [⟨.int .u8,1,.aO 5⟩],.bu false 7 5 1 (.var 4) [⟨.int .u8,1,.aO 6⟩],.bu false 8 5 1 (.var 5) [⟨.int .u8,1,.aO 7⟩],.bu false 9 5 1 (.var 6) [⟨.int .u8,1,.aO 8⟩]] ⟨1,10,7,9,0,0,0⟩ ⟨[x0,x1,x2,x3,x4,x5,x6],[A0,A1,A2,A3,A4,A5,A6,A7,A8],[],[b0],[v0,v1,v2,v3,v4,v5,v6,v7,v8,v9],[],[],[]⟩ 16 Try.func61 (by kernel_rfl) h
def wV(ax:PT)(x0 x1:Int)(A0 A1:Nat→Int)(v0 v1:V1)(b0:Nat):Prop:=
 ∀b1:Nat,Cl 60 [] [] fun x hs _=> ∃(b2:Nat) (v2 v3:V1) (A2 A3:Nat→Int),x= .pointer (some ⟨b2,0,none⟩)∧hs=[aq b2 true ([v2.v,v3.v,.int .i64 4,.int .i64 2,.int .i64 13,.int .i64 22,.int .i64 6,.int .i64 11,.int .i64 25,.int .i64 7,.int .i64 18,.int .i64 3,.int .i64 17,.int .i64 19,.int .i64 10]),au true 115 1 v2.v 8 (aK 8 [aJ .u32 1 A2]),au true 115 1 v3.v 64 (aK 64 [aJ .u32 1 A3])]∧
 Cl 61 [.pointer (some ⟨b2,0,none⟩),.slice (some ⟨b0,0,none⟩) 2 2] [aq b2 true ([v2.v,v3.v,.int .i64 4,.int .i64 2,.int .i64 13,.int .i64 22,.int .i64 6,.int .i64 11,.int .i64 25,.int .i64 7,.int .i64 18,.int .i64 3,.int .i64 17,.int .i64 19,.int .i64 10]),au true 115 1 v2.v 8 (aK 8 [aJ .u32 1 A2]),au true 115 1 v3.v 64 (aK 64 [aJ .u32 1 A3]),aq b0 true ([v0.v,v1.v]),bi v0 x0 A0,bi v1 x1 A1] fun x hs _=> ∃(v4:V1) (A4:Nat→Int),x=v4.v∧hs=[aq b0 true ([v0.v,v1.v]),bi v0 x0 A0,bi v1 x1 A1,bn true v4 32 A4]∧
 ax (.agg (ads (aj .u8 32 A4) ([])).toArray) [bn true v4 32 A4,HP.emp,HP.emp,aq b1 true (ads (aj .u8 32 A4) ([])),aq b0 true ([v0.v,v1.v]),bi v0 x0 A0,bi v1 x1 A1]
theorem Dh(ax:PT)(x0 x1:Int)(A0 A1:Nat→Int)(v0 v1:V1)(b0:Nat)(h:wV ax x0 x1 A0 A1 v0 v1 b0):ar adE 54 [.slice (some ⟨b0,0,none⟩) 2 2] [aq b0 true ([v0.v,v1.v]),bi v0 x0 A0,bi v1 x1 A1] ax:=
 NQ (C:=Fm.cx) [.sl 0 (.lit 0) 1 (.lit 2) (.lit 2)] [.row 0 true [.vv 0,.vv 1],.bu false 0 5 1 (.var 0) [⟨.int .u8,1,.aO 0⟩],.bu false 1 5 1 (.var 1) [⟨.int .u8,1,.aO 1⟩]] ⟨1,2,2,2,0,0,0⟩ ⟨[x0,x1],[A0,A1],[],[b0],[v0,v1],[],[],[]⟩ Try.func54 (by kernel_rfl) h
def Di(ax:PT)(x0 x1 x2 x3 x4 x5 x6:Int)(A0 A1 A2 A3 A4 A5 A6:Nat→Int)(v0 v1 v2 v3 v4 v5 v6 v7:V1):Prop:=
 ∀b0:Nat,Cl 60 [] [] fun x hs _=> ∃(b1:Nat) (v8 v9:V1) (A7 A8:Nat→Int),x= .pointer (some ⟨b1,0,none⟩)∧hs=[aq b1 true ([v8.v,v9.v,.int .i64 4,.int .i64 2,.int .i64 13,.int .i64 22,.int .i64 6,.int .i64 11,.int .i64 25,.int .i64 7,.int .i64 18,.int .i64 3,.int .i64 17,.int .i64 19,.int .i64 10]),au true 115 1 v8.v 8 (aK 8 [aJ .u32 1 A7]),au true 115 1 v9.v 64 (aK 64 [aJ .u32 1 A8])]∧
 Cl 61 [.pointer (some ⟨b1,0,none⟩),v0.v] [aq b1 true ([v8.v,v9.v,.int .i64 4,.int .i64 2,.int .i64 13,.int .i64 22,.int .i64 6,.int .i64 11,.int .i64 25,.int .i64 7,.int .i64 18,.int .i64 3,.int .i64 17,.int .i64 19,.int .i64 10]),au true 115 1 v8.v 8 (aK 8 [aJ .u32 1 A7]),au true 115 1 v9.v 64 (aK 64 [aJ .u32 1 A8]),au true 23 1 v0.v 7 [v1.v,v2.v,v3.v,v4.v,v5.v,v6.v,v7.v],bi v1 x0 A0,bi v2 x1 A1,bi v3 x2 A2,bi v4 x3 A3,bi v5 x4 A4,bi v6 x5 A5,bi v7 x6 A6] fun x hs _=> ∃(v10:V1) (A9:Nat→Int),x=v10.v∧hs=[au true 23 1 v0.v 7 [v1.v,v2.v,v3.v,v4.v,v5.v,v6.v,v7.v],bi v1 x0 A0,bi v2 x1 A1,bi v3 x2 A2,bi v4 x3 A3,bi v5 x4 A4,bi v6 x5 A5,bi v7 x6 A6,bn true v10 32 A9]∧
 ax (.agg (ads (aj .u8 32 A9) ([])).toArray) [bi v3 x2 A2,bi v4 x3 A3,bi v5 x4 A4,bi v6 x5 A5,bi v7 x6 A6,bn true v10 32 A9,HP.emp,HP.emp,aq b0 true (ads (aj .u8 32 A9) ([])),au true 23 1 v0.v 7 [v1.v,v2.v,v3.v,v4.v,v5.v,v6.v,v7.v],bi v1 x0 A0,bi v2 x1 A1]
theorem La(ax:PT)(x0 x1 x2 x3 x4 x5 x6:Int)(A0 A1 A2 A3 A4 A5 A6:Nat→Int)(v0 v1 v2 v3 v4 v5 v6 v7:V1)(h:Di ax x0 x1 x2 x3 x4 x5 x6 A0 A1 A2 A3 A4 A5 A6 v0 v1 v2 v3 v4 v5 v6 v7):ar adE 54 [v0.v] [au true 23 1 v0.v 7 [v1.v,v2.v,v3.v,v4.v,v5.v,v6.v,v7.v],bi v1 x0 A0,bi v2 x1 A1,bi v3 x2 A2,bi v4 x3 A3,bi v5 x4 A4,bi v6 x5 A5,bi v7 x6 A6] ax:=
 NQ (C:=Fm.cx) [.vv 0] [.bu true 0 23 1 (.lit 7) [{ck:=CK.qV [1,2,3,4,5,6,7],w:=1,a:= .lit 0}],.bu false 1 5 1 (.var 0) [⟨.int .u8,1,.aO 0⟩],.bu false 2 5 1 (.var 1) [⟨.int .u8,1,.aO 1⟩],.bu false 3 5 1 (.var 2) [⟨.int .u8,1,.aO 2⟩],.bu false 4 5 1 (.var 3) [⟨.int .u8,1,.aO 3⟩],.bu false 5 5 1 (.var 4) [⟨.int .u8,1,.aO 4⟩],.bu false 6 5 1 (.var 5) [⟨.int .u8,1,.aO 5⟩],.bu false 7 5 1 (.var 6) [⟨.int .u8,1,.aO 6⟩]] ⟨0,8,7,7,0,0,0⟩ ⟨[x0,x1,x2,x3,x4,x5,x6],[A0,A1,A2,A3,A4,A5,A6],[],[],[v0,v1,v2,v3,v4,v5,v6,v7],[],[],[]⟩ Try.func54 (by kernel_rfl) h
def tq(ax:PT)(x0 x1:Int)(A0 A1:Nat→Int)(v0 v1:V1)(b0:Nat):Prop:=
 Cl 54 [.slice (some ⟨b0,0,none⟩) 2 2] [aq b0 true ([v0.v,v1.v]),bi v0 x0 A0,bi v1 x1 A1] fun x hs l=> ∃A2:(Nat→Int),x= .agg (ads (aj .u8 32 A2) ([])).toArray∧hs=l∧
 ∀b1:Nat,ax (.slice (some ⟨b1,0,none⟩) 32 32) [aq b0 true ([v0.v,v1.v]),bi v0 x0 A0,bi v1 x1 A1,aq b1 true (ads (aj .u8 32 A2) ([]))]
theorem z_(ax:PT)(x0 x1:Int)(A0 A1:Nat→Int)(v0 v1:V1)(b0:Nat)(h:tq ax x0 x1 A0 A1 v0 v1 b0):ar adE 48 [.int .u8 1,.slice (some ⟨b0,0,none⟩) 2 2] [aq b0 true ([v0.v,v1.v]),bi v0 x0 A0,bi v1 x1 A1] ax:=
 Bf (C:=Fm.cx) [.int .u8 (.lit 1),.sl 0 (.lit 0) 1 (.lit 2) (.lit 2)] [.row 0 true [.vv 0,.vv 1],.bu false 0 5 1 (.var 0) [⟨.int .u8,1,.aO 0⟩],.bu false 1 5 1 (.var 1) [⟨.int .u8,1,.aO 1⟩]] ⟨1,2,2,2,0,0,0⟩ ⟨[x0,x1],[A0,A1],[],[b0],[v0,v1],[],[],[]⟩ 4 Try.func48 (by kernel_rfl) h
def Aa(ax:PT)(x0 x1 x2 x3 x4 x5 x6:Int)(A0 A1 A2 A3 A4 A5 A6:Nat→Int)(v0 v1 v2 v3 v4 v5 v6 v7:V1):Prop:=
 Cl 54 [v0.v] [au true 23 1 v0.v 7 [v1.v,v2.v,v3.v,v4.v,v5.v,v6.v,v7.v],bi v1 x0 A0,bi v2 x1 A1,bi v3 x2 A2,bi v4 x3 A3,bi v5 x4 A4,bi v6 x5 A5,bi v7 x6 A6] fun x hs l=> ∃A7:(Nat→Int),x= .agg (ads (aj .u8 32 A7) ([])).toArray∧hs=l∧
 ∀b0:Nat,ax (.slice (some ⟨b0,0,none⟩) 32 32) [au true 23 1 v0.v 7 [v1.v,v2.v,v3.v,v4.v,v5.v,v6.v,v7.v],bi v1 x0 A0,bi v2 x1 A1,bi v3 x2 A2,bi v4 x3 A3,bi v5 x4 A4,bi v6 x5 A5,bi v7 x6 A6,aq b0 true (ads (aj .u8 32 A7) ([]))]
theorem I8(ax:PT)(x0 x1 x2 x3 x4 x5 x6:Int)(A0 A1 A2 A3 A4 A5 A6:Nat→Int)(v0 v1 v2 v3 v4 v5 v6 v7:V1)(h:Aa ax x0 x1 x2 x3 x4 x5 x6 A0 A1 A2 A3 A4 A5 A6 v0 v1 v2 v3 v4 v5 v6 v7):ar adE 48 [.int .u8 1,v0.v] [au true 23 1 v0.v 7 [v1.v,v2.v,v3.v,v4.v,v5.v,v6.v,v7.v],bi v1 x0 A0,bi v2 x1 A1,bi v3 x2 A2,bi v4 x3 A3,bi v5 x4 A4,bi v6 x5 A5,bi v7 x6 A6] ax:=
 Bf (C:=Fm.cx) [.int .u8 (.lit 1),.vv 0] [.bu true 0 23 1 (.lit 7) [{ck:=CK.qV [1,2,3,4,5,6,7],w:=1,a:= .lit 0}],.bu false 1 5 1 (.var 0) [⟨.int .u8,1,.aO 0⟩],.bu false 2 5 1 (.var 1) [⟨.int .u8,1,.aO 1⟩],.bu false 3 5 1 (.var 2) [⟨.int .u8,1,.aO 2⟩],.bu false 4 5 1 (.var 3) [⟨.int .u8,1,.aO 3⟩],.bu false 5 5 1 (.var 4) [⟨.int .u8,1,.aO 4⟩],.bu false 6 5 1 (.var 5) [⟨.int .u8,1,.aO 5⟩],.bu false 7 5 1 (.var 6) [⟨.int .u8,1,.aO 6⟩]] ⟨0,8,7,7,0,0,0⟩ ⟨[x0,x1,x2,x3,x4,x5,x6],[A0,A1,A2,A3,A4,A5,A6],[],[],[v0,v1,v2,v3,v4,v5,v6,v7],[],[],[]⟩ 9 Try.func48 (by kernel_rfl) h
def HG(ax:PT)(x0 x1 x2 x3 x4 x5:Int)(A0 A1 A2 A3 A4 A5 A6:Nat→Int)(v0 v1 v2 v3 v4 v5 v6:V1)(b0:Nat):Prop:=
 Cl 49 [.int .u8 1,v6.v,.int .u8 54] [bn false v6 32 A6] fun x hs l=> ∃(v7:V1) (x6:Int) (A7:Nat→Int),x=v7.v∧hs=l++[bo v7 x6 A7]∧
 ∀(_:Nat) (v8:V1),Cl 48 [.int .u8 1,v8.v] [au true 23 1 v8.v 7 [v7.v,v0.v,v1.v,v2.v,v3.v,v4.v,v5.v],bo v7 x6 A7,bi v0 x0 A0,bi v1 x1 A1,bi v2 x2 A2,bi v3 x3 A3,bi v4 x4 A4,bi v5 x5 A5] fun x hs l=> ∃(v9:V1) (x7:Int) (A8:Nat→Int),x=v9.v∧hs=l++[bo v9 x7 A8]∧
 Cl 49 [.int .u8 1,v6.v,.int .u8 92] [bn false v6 32 A6] fun x hs l=> ∃(v10:V1) (x8:Int) (A9:Nat→Int),x=v10.v∧hs=l++[bo v10 x8 A9]∧
 ∀b2:Nat,Cl 48 [.int .u8 1,.slice (some ⟨b2,0,none⟩) 2 2] [aq b2 true ([v10.v,v9.v]),bo v10 x8 A9,bo v9 x7 A8] fun x hs l=> ∃(v11:V1) (x9:Int) (br:Nat→Int),x=v11.v∧hs=l++[bo v11 x9 br]∧
 ax (v11.v) [aq b0 true ([v0.v,v1.v,v2.v,v3.v,v4.v,v5.v]),bo v11 x9 br]
theorem OD(ax:PT)(x0 x1 x2 x3 x4 x5:Int)(A0 A1 A2 A3 A4 A5 A6:Nat→Int)(v0 v1 v2 v3 v4 v5 v6:V1)(b0:Nat)(h:HG ax x0 x1 x2 x3 x4 x5 A0 A1 A2 A3 A4 A5 A6 v0 v1 v2 v3 v4 v5 v6 b0):ar adE 31 [.int .u8 1,v6.v,.slice (some ⟨b0,0,none⟩) 6 6] [aq b0 true ([v0.v,v1.v,v2.v,v3.v,v4.v,v5.v]),bi v0 x0 A0,bi v1 x1 A1,bi v2 x2 A2,bi v3 x3 A3,bi v4 x4 A4,bi v5 x5 A5,bn false v6 32 A6] ax:=
 s5 (C:=Fm.cx) [.int .u8 (.lit 1),.vv 6,.sl 0 (.lit 0) 1 (.lit 6) (.lit 6)] [.row 0 true [.vv 0,.vv 1,.vv 2,.vv 3,.vv 4,.vv 5],.bu false 0 5 1 (.var 0) [⟨.int .u8,1,.aO 0⟩],.bu false 1 5 1 (.var 1) [⟨.int .u8,1,.aO 1⟩],.bu false 2 5 1 (.var 2) [⟨.int .u8,1,.aO 2⟩],.bu false 3 5 1 (.var 3) [⟨.int .u8,1,.aO 3⟩],.bu false 4 5 1 (.var 4) [⟨.int .u8,1,.aO 4⟩],.bu false 5 5 1 (.var 5) [⟨.int .u8,1,.aO 5⟩],.bu false 6 5 1 (.lit 32) [⟨.int .u8,1,.aO 6⟩]] ⟨1,7,6,7,0,0,0⟩ ⟨[x0,x1,x2,x3,x4,x5],[A0,A1,A2,A3,A4,A5,A6],[],[b0],[v0,v1,v2,v3,v4,v5,v6],[],[],[]⟩ 1 1 Try.func31 (by kernel_rfl) h
def Ab(ax:PT)(A0:Nat→Int)(_:V1):Prop:=
 ∃post,Bj adE 65 [.int .i64 64] [] post∧
 ∀x hs,post x hs→∃(v1:V1) (x0:Int) (A1:Nat→Int),x=v1.v∧hs=[bo v1 x0 A1]∧
 aw (64≤x0) (
 ax ((aC 1 v1.v 0 64 (some 64))) [bo v1 x0 (aA (aA (aA (aA (aA (aA (aA A1 0 1 A0) 1 1 (aA A1 0 1 A0)) 2 2 (aA (aA A1 0 1 A0) 1 1 (aA A1 0 1 A0))) 4 4 (aA (aA (aA A1 0 1 A0) 1 1 (aA A1 0 1 A0)) 2 2 (aA (aA A1 0 1 A0) 1 1 (aA A1 0 1 A0)))) 8 8 (aA (aA (aA (aA A1 0 1 A0) 1 1 (aA A1 0 1 A0)) 2 2 (aA (aA A1 0 1 A0) 1 1 (aA A1 0 1 A0))) 4 4 (aA (aA (aA A1 0 1 A0) 1 1 (aA A1 0 1 A0)) 2 2 (aA (aA A1 0 1 A0) 1 1 (aA A1 0 1 A0))))) 16 16 (aA (aA (aA (aA (aA A1 0 1 A0) 1 1 (aA A1 0 1 A0)) 2 2 (aA (aA A1 0 1 A0) 1 1 (aA A1 0 1 A0))) 4 4 (aA (aA (aA A1 0 1 A0) 1 1 (aA A1 0 1 A0)) 2 2 (aA (aA A1 0 1 A0) 1 1 (aA A1 0 1 A0)))) 8 8 (aA (aA (aA (aA A1 0 1 A0) 1 1 (aA A1 0 1 A0)) 2 2 (aA (aA A1 0 1 A0) 1 1 (aA A1 0 1 A0))) 4 4 (aA (aA (aA A1 0 1 A0) 1 1 (aA A1 0 1 A0)) 2 2 (aA (aA A1 0 1 A0) 1 1 (aA A1 0 1 A0)))))) 32 32 (aA (aA (aA (aA (aA (aA A1 0 1 A0) 1 1 (aA A1 0 1 A0)) 2 2 (aA (aA A1 0 1 A0) 1 1 (aA A1 0 1 A0))) 4 4 (aA (aA (aA A1 0 1 A0) 1 1 (aA A1 0 1 A0)) 2 2 (aA (aA A1 0 1 A0) 1 1 (aA A1 0 1 A0)))) 8 8 (aA (aA (aA (aA A1 0 1 A0) 1 1 (aA A1 0 1 A0)) 2 2 (aA (aA A1 0 1 A0) 1 1 (aA A1 0 1 A0))) 4 4 (aA (aA (aA A1 0 1 A0) 1 1 (aA A1 0 1 A0)) 2 2 (aA (aA A1 0 1 A0) 1 1 (aA A1 0 1 A0))))) 16 16 (aA (aA (aA (aA (aA A1 0 1 A0) 1 1 (aA A1 0 1 A0)) 2 2 (aA (aA A1 0 1 A0) 1 1 (aA A1 0 1 A0))) 4 4 (aA (aA (aA A1 0 1 A0) 1 1 (aA A1 0 1 A0)) 2 2 (aA (aA A1 0 1 A0) 1 1 (aA A1 0 1 A0)))) 8 8 (aA (aA (aA (aA A1 0 1 A0) 1 1 (aA A1 0 1 A0)) 2 2 (aA (aA A1 0 1 A0) 1 1 (aA A1 0 1 A0))) 4 4 (aA (aA (aA A1 0 1 A0) 1 1 (aA A1 0 1 A0)) 2 2 (aA (aA A1 0 1 A0) 1 1 (aA A1 0 1 A0)))))))])
theorem I9(ax:PT)(A0:Nat→Int)(v0:V1)(h:Ab ax A0 v0):ar adE 57 [v0.v,.int .i64 64] [bn false v0 1 A0] ax:=
 s5 (C:=Fm.cx) [.vv 0,.int .i64 (.lit 64)] [.bu false 0 5 1 (.lit 1) [⟨.int .u8,1,.aO 0⟩]] ⟨0,1,0,1,0,0,0⟩ ⟨[],[A0],[],[],[v0],[],[],[]⟩ 0 1 Try.func57 (by kernel_rfl) h
def wW(ax:PT)(x0:Int)(A0:Nat→Int)(_:V1):Prop:=
 ∀b0:Nat,Cl 57 [.slice (some ⟨b0,0,none⟩) 1 1,.int .i64 64] [aq b0 true ([.int .u8 x0])] fun x hs l=> ∃(v1:V1) (x1:Int) (A1:Nat→Int),x=v1.v∧hs=l++[bo v1 x1 A1]∧
 ∃(bN:Ext→Prop) (bY:Ext→Nat),(∃(x2:Int) (A2:Nat→Int),x2=0∧(∀j,j<(ag x1)→A2 j=A1 j)∧bN ⟨[],[],[x2],[A2],[],[],[]⟩)∧
 ∀(x2:Int) (A2:Nat→Int),bN ⟨[],[],[x2],[A2],[],[],[]⟩→
 aZ (x2<32) (
 aw (0≤x2) (
 aw (x2<x1) (
 eJ (x2+1) ((
 ∃(gQ:Int) (iG:Nat→Int),gQ=(x2+1)∧(∀j,j<(ag x1)→iG j=(ao A2 (ag x2) (ak .aD .u8 (A2 (ag x2)) (A0 (ag x2)))) j)∧bN ⟨[],[],[gQ],[iG],[],[],[]⟩∧bY ⟨[],[],[gQ],[iG],[],[],[]⟩<bY ⟨[],[],[x2],[A2],[],[],[]⟩))))) (
 ax (v1.v) [bo v1 x1 A2])
theorem FU(ax:PT)(x0:Int)(A0:Nat→Int)(v0:V1)(h:wW ax x0 A0 v0):ar adE 49 [.int .u8 1,v0.v,.int .u8 x0] [bn false v0 32 A0] ax:=
 s5 (C:=Fm.cx) [.int .u8 (.lit 1),.vv 0,.int .u8 (.var 0)] [.bu false 0 5 1 (.lit 32) [⟨.int .u8,1,.aO 0⟩]] ⟨0,1,1,1,0,0,0⟩ ⟨[x0],[A0],[],[],[v0],[],[],[]⟩ 0 1 Try.func49 (by kernel_rfl) h
def QJ(ax:PT)(x0:Int):Prop:=
 ∀(b0:Nat) (_:V1) (_:Nat) (_:V1) (_:Nat) (_:V1) (_:Nat) (_:V1) (_:Nat) (_:V1) (_:Nat) (_:V1) (_:Nat) (_:V1) (_:Nat) (v7:V1),ax (v7.v) [aq b0 true ([.int .u8 (ae .u8 (ak .shr .i64 x0 56))]),bn true v7 8 (ao (ao (ao (ao (ao (ao (ao (ao (fun _=>0) 0 (ae .u8 (ak .shr .i64 x0 56))) 1 (ae .u8 (ak .shr .i64 x0 48))) 2 (ae .u8 (ak .shr .i64 x0 40))) 3 (ae .u8 (ak .shr .i64 x0 32))) 4 (ae .u8 (ak .shr .i64 x0 24))) 5 (ae .u8 (ak .shr .i64 x0 16))) 6 (ae .u8 (ak .shr .i64 x0 8))) 7 (ae .u8 (ak .shr .i64 x0 0)))]
theorem TV(ax:PT)(x0:Int)(h:QJ ax x0):ar adE 41 [.int .i64 x0] [] ax:=
 Bf (C:=Fm.cx) [.int .i64 (.var 0)] [] ⟨0,0,1,0,0,0,0⟩ ⟨[x0],[],[],[],[],[],[],[]⟩ 2 Try.func41 (by kernel_rfl) h
def wj(ax:PT)(x0 x1:Int)(A0 A1:Nat→Int)(_ _:V1):Prop:=
 aw (0≤x0) (
 aw (0≤x1) (
 aZ (¬(x0=x1)) (
 ax (.bool false) []) (
 ∃(jk:Ext→Prop) (lA:Ext→Nat),(∃x2 x3:Int,x2=0∧x3=0∧jk ⟨[],[],[x2,x3],[],[],[],[]⟩)∧
 ∀x2 x3:Int,jk ⟨[],[],[x2,x3],[],[],[],[]⟩→
 aZ (x2<x0) (
 aw (0≤x2) (
 aw (x2<x1) (
 eJ (x2+1) ((
 ∃gQ fO:Int,gQ=(x2+1)∧fO=(ak .bJ .u8 x3 (ak .aD .u8 (A0 (ag x2)) (A1 (ag x2))))∧jk ⟨[],[],[gQ,fO],[],[],[],[]⟩∧lA ⟨[],[],[gQ,fO],[],[],[],[]⟩<lA ⟨[],[],[x2,x3],[],[],[],[]⟩))))) (
 ax (.bool (x3==0)) []))))
theorem HH(ax:PT)(x0 x1:Int)(A0 A1:Nat→Int)(v0 v1:V1)(h:wj ax x0 x1 A0 A1 v0 v1):ar adE 44 [v0.v,v1.v] [bi v0 x0 A0,bi v1 x1 A1] ax:=
 NU (C:=Fm.cx) [.vv 0,.vv 1] [.bu false 0 5 1 (.var 0) [⟨.int .u8,1,.aO 0⟩],.bu false 1 5 1 (.var 1) [⟨.int .u8,1,.aO 1⟩]] ⟨0,2,2,2,0,0,0⟩ ⟨[x0,x1],[A0,A1],[],[],[v0,v1],[],[],[]⟩ Try.func44 (by kernel_rfl) h
def Ac(ax:PT)(x0:Int):Prop:=
 aZ (x0<8) (
 ax (.slice none 0 0) []) (
 ∃(jk:Ext→Prop) (lA:Ext→Nat),(∃(v1:V1) (x1 x2:Int) (A0:Nat→Int),x1=56∧v1=(⟨.slice none 0 0,rfl⟩:V1)∧v1=(⟨.slice none 0 0,rfl⟩:V1)∧x2=0∧(∀j,j<(ag x2)→A0 j=(fun _=>0) j)∧jk ⟨[],[v1],[x1,x2],[A0],[],[],[]⟩)∧
 ∀(v1:V1) (x1 x2:Int) (A0:Nat→Int),jk ⟨[],[v1],[x1,x2],[A0],[],[],[]⟩→
 aZ (0≤x1) (
 aw ((¬((ae .u8 (ak .shr .u64 x0 x1))=0))∨(0≤x2)) (
 aZ ((¬((ae .u8 (ak .shr .u64 x0 x1))=0))∨(0<x2)) (
 ∀_:Nat,aw (0≤x2) (
 fx ((x2+1)*1) (
 ∀v2:V1,eJ (x1 - 8) ((
 ∃(wk:V1) (gM gQ:Int) (wN:Nat→Int),gM=(x1 - 8)∧wk=v2∧wk=v2∧gQ=(x2+1)∧(∀j,j<(ag gQ)→wN j=(ao A0 (ag x2) (ae .u8 (ak .shr .u64 x0 x1))) j)∧jk ⟨[],[wk],[gM,gQ],[wN],[],[],[]⟩∧lA ⟨[],[wk],[gM,gQ],[wN],[],[],[]⟩<lA ⟨[],[v1],[x1,x2],[A0],[],[],[]⟩))))) (
 eJ (x1 - 8) ((
 ∃(wk:V1) (gM gQ:Int) (wN:Nat→Int),gM=(x1 - 8)∧wk=v1∧wk=v1∧gQ=x2∧(∀j,j<(ag gQ)→wN j=A0 j)∧jk ⟨[],[wk],[gM,gQ],[wN],[],[],[]⟩∧lA ⟨[],[wk],[gM,gQ],[wN],[],[],[]⟩<lA ⟨[],[v1],[x1,x2],[A0],[],[],[]⟩))))) (
 ax (v1.v) [bo v1 x2 A0]))
theorem I_(ax:PT)(x0:Int)(h:Ac ax x0):ar adE 32 [.int .u64 x0] [] ax:=
 s5 (C:=Fm.cx) [.int .u64 (.var 0)] [] ⟨0,0,1,0,0,0,0⟩ ⟨[x0],[],[],[],[],[],[],[]⟩ 0 1 Try.func32 (by kernel_rfl) h
def HI(ax:PT)(x0 x1:Int):Prop:=
 ∀b0 _:Nat,Cl 32 [.int .u64 x0] [] fun x hs _=> ∃(v0:V1) (x2:Int) (A0:Nat→Int),x=v0.v∧hs=[bo v0 x2 A0]∧
 aw (0≤x2) (
 aZ (0<x2) (
 eJ (x2 - 1) ((
 fx (1+x2) (
 ∀_:V1,Cl 32 [.int .u64 x1] [] fun x hs _=> ∃(v2:V1) (x3:Int) (A1:Nat→Int),x=v2.v∧hs=[bo v2 x3 A1]∧
 aw (0≤x3) (
 aZ (0<x3) (
 eJ (x3 - 1) ((
 aw (0<(1+x2)) (
 aw (0≤(1+x2)) (
 fx ((1+x2)+x3) (
 ∀v3:V1,ax (v3.v) [aq b0 true ([.int .u64 x0,.int .u64 x1]),bo v3 ((1+x2)+x3) (aA (ao (aA (fun _=>(ak .bJ .u8 0 (ak .bJ .u8 8 (ae .u8 (x2 - 1))))) 1 (ag x2) A0) 0 (ak .bJ .u8 (ak .shl .u8 ((aA (fun _=>(ak .bJ .u8 0 (ak .bJ .u8 8 (ae .u8 (x2 - 1))))) 1 (ag x2) A0) 0) 4) (ak .bJ .u8 8 (ae .u8 (x3 - 1))))) (ag (1+x2)) (ag x3) A1)])))))) (
 aw (0<(1+x2)) (
 aw (0≤(1+x2)) (
 fx ((1+x2)+x3) (
 ∀v3:V1,ax (v3.v) [aq b0 true ([.int .u64 x0,.int .u64 x1]),bo v3 ((1+x2)+x3) (aA (ao (aA (fun _=>(ak .bJ .u8 0 (ak .bJ .u8 8 (ae .u8 (x2 - 1))))) 1 (ag x2) A0) 0 (ak .bJ .u8 (ak .shl .u8 ((aA (fun _=>(ak .bJ .u8 0 (ak .bJ .u8 8 (ae .u8 (x2 - 1))))) 1 (ag x2) A0) 0) 4) (ae .u8 (ak .aQ .u64 x1 7)))) (ag (1+x2)) (ag x3) A1)]))))))))) (
 fx (1+x2) (
 ∀_:V1,Cl 32 [.int .u64 x1] [] fun x hs _=> ∃(v2:V1) (x3:Int) (A1:Nat→Int),x=v2.v∧hs=[bo v2 x3 A1]∧
 aw (0≤x3) (
 aZ (0<x3) (
 eJ (x3 - 1) ((
 aw (0<(1+x2)) (
 aw (0≤(1+x2)) (
 fx ((1+x2)+x3) (
 ∀v3:V1,ax (v3.v) [aq b0 true ([.int .u64 x0,.int .u64 x1]),bo v3 ((1+x2)+x3) (aA (ao (aA (fun _=>(ak .bJ .u8 0 (ae .u8 (ak .aQ .u64 x0 7)))) 1 (ag x2) A0) 0 (ak .bJ .u8 (ak .shl .u8 ((aA (fun _=>(ak .bJ .u8 0 (ae .u8 (ak .aQ .u64 x0 7)))) 1 (ag x2) A0) 0) 4) (ak .bJ .u8 8 (ae .u8 (x3 - 1))))) (ag (1+x2)) (ag x3) A1)])))))) (
 aw (0<(1+x2)) (
 aw (0≤(1+x2)) (
 fx ((1+x2)+x3) (
 ∀v3:V1,ax (v3.v) [aq b0 true ([.int .u64 x0,.int .u64 x1]),bo v3 ((1+x2)+x3) (aA (ao (aA (fun _=>(ak .bJ .u8 0 (ae .u8 (ak .aQ .u64 x0 7)))) 1 (ag x2) A0) 0 (ak .bJ .u8 (ak .shl .u8 ((aA (fun _=>(ak .bJ .u8 0 (ae .u8 (ak .aQ .u64 x0 7)))) 1 (ag x2) A0) 0) 4) (ae .u8 (ak .aQ .u64 x1 7)))) (ag (1+x2)) (ag x3) A1)]))))))))
theorem OE(ax:PT)(x0 x1:Int)(h:HI ax x0 x1):ar adE 17 [.agg #[.int .u64 x0,.int .u64 x1]] [] ax:=
 Bf (C:=Fm.cx) [.agg [.int .u64 (.var 0),.int .u64 (.var 1)]] [] ⟨0,0,2,0,0,0,0⟩ ⟨[x0,x1],[],[],[],[],[],[],[]⟩ 2 Try.func17 (by kernel_rfl) h
def Dj(ax:PT)(x0:Int)(A0:Nat→Int)(_:V1):Prop:=
 ∀_:Nat,aw (0≤x0) (
 aZ (x0=0) (
 ax (.tuple #[.agg #[.int .u64 0,.int .u64 0],.int .i64 0,.int .i64 9]) []) (
 ∀_:Nat,aw (0<x0) (
 aZ ((ak .shr .u8 (A0 0) 4)<8) (
 aZ ((ak .aQ .u8 (A0 0) 15)<8) (
 ax (.tuple #[.agg #[.int .u64 (ae .u64 (ak .shr .u8 (A0 0) 4)),.int .u64 (ae .u64 (ak .aQ .u8 (A0 0) 15))],.int .i64 1,.int .i64 0]) []) (
 eJ (ae .u8 ((ak .aQ .u8 (A0 0) 15) - 8)) ((
 eJ (1+(ae .u8 ((ak .aQ .u8 (A0 0) 15) - 8))) ((
 eJ ((1+(ae .u8 ((ak .aQ .u8 (A0 0) 15) - 8)))+1) ((
 aZ (x0<((1+(ae .u8 ((ak .aQ .u8 (A0 0) 15) - 8)))+1)) (
 ax (.tuple #[.agg #[.int .u64 0,.int .u64 0],.int .i64 0,.int .i64 9]) []) (
 aw (1≤((1+(ae .u8 ((ak .aQ .u8 (A0 0) 15) - 8)))+1)) (
 aw (((1+(ae .u8 ((ak .aQ .u8 (A0 0) 15) - 8)))+1)≤x0) (
 aw (0≤(((1+(ae .u8 ((ak .aQ .u8 (A0 0) 15) - 8)))+1) - 1)) (
 ∃(eV:Ext→Prop) (iH:Ext→Nat),(∃(x1:Int) (A1:Nat→Int),x1=0∧(∀j,j<2→A1 j=(aA (ao (fun _=>0) 0 (ae .u64 (ak .shr .u8 (A0 0) 4))) 1 1 (fun _=>0)) j)∧eV ⟨[],[],[x1],[A1],[],[],[]⟩)∧
 ∀(x1:Int) (A1:Nat→Int),eV ⟨[],[],[x1],[A1],[],[],[]⟩→
 aZ (x1<(((1+(ae .u8 ((ak .aQ .u8 (A0 0) 15) - 8)))+1) - 1)) (
 aw (1≤((1+(ae .u8 ((ak .aQ .u8 (A0 0) 15) - 8)))+1)) (
 aw (((1+(ae .u8 ((ak .aQ .u8 (A0 0) 15) - 8)))+1)≤x0) (
 aw (0≤x1) (
 aw (0≤(1+x1)) (
 aw ((1+x1)<x0) (
 eJ (x1+1) ((
 ∃(gM:Int) (KZ:Nat→Int),gM=(x1+1)∧(∀j,j<2→KZ j=(ao (aA (fun _=>0) 0 1 A1) 1 (ak .bJ .u64 (ak .shl .u64 (A1 1) 8) (ae .u64 (A0 (ag (1+x1)))))) j)∧eV ⟨[],[],[gM],[KZ],[],[],[]⟩∧iH ⟨[],[],[gM],[KZ],[],[],[]⟩<iH ⟨[],[],[x1],[A1],[],[],[]⟩)))))))) (
 Cl 32 [.int .u64 (A1 1)] [] fun x hs _=> ∃(v1:V1) (x2:Int) (A2:Nat→Int),x=v1.v∧hs=[bo v1 x2 A2]∧
 aw (0≤x2) (
 eJ (((1+(ae .u8 ((ak .aQ .u8 (A0 0) 15) - 8)))+1) - 1) ((
 aZ (¬(x2=(((1+(ae .u8 ((ak .aQ .u8 (A0 0) 15) - 8)))+1) - 1))) (
 ax (.tuple #[.agg #[.int .u64 0,.int .u64 0],.int .i64 0,.int .i64 9]) []) (
 ax (.tuple #[.agg #[.int .u64 (A1 0),.int .u64 (A1 1)],.int .i64 ((1+(ae .u8 ((ak .aQ .u8 (A0 0) 15) - 8)))+1),.int .i64 0]) []))))))))))))))))) (
 eJ (ae .u8 ((ak .shr .u8 (A0 0) 4) - 8)) ((
 eJ (1+(ae .u8 ((ak .shr .u8 (A0 0) 4) - 8))) ((
 eJ ((1+(ae .u8 ((ak .shr .u8 (A0 0) 4) - 8)))+1) ((
 aZ (x0<((1+(ae .u8 ((ak .shr .u8 (A0 0) 4) - 8)))+1)) (
 ax (.tuple #[.agg #[.int .u64 0,.int .u64 0],.int .i64 0,.int .i64 9]) []) (
 aw (1≤((1+(ae .u8 ((ak .shr .u8 (A0 0) 4) - 8)))+1)) (
 aw (((1+(ae .u8 ((ak .shr .u8 (A0 0) 4) - 8)))+1)≤x0) (
 aw (0≤(((1+(ae .u8 ((ak .shr .u8 (A0 0) 4) - 8)))+1) - 1)) (
 ∃(RM:Ext→Prop) (TW:Ext→Nat),(∃(x1:Int) (A1:Nat→Int),x1=0∧(∀j,j<2→A1 j=(fun _=>0) j)∧RM ⟨[],[],[x1],[A1],[],[],[]⟩)∧
 ∀(x1:Int) (A1:Nat→Int),RM ⟨[],[],[x1],[A1],[],[],[]⟩→
 aZ (x1<(((1+(ae .u8 ((ak .shr .u8 (A0 0) 4) - 8)))+1) - 1)) (
 aw (1≤((1+(ae .u8 ((ak .shr .u8 (A0 0) 4) - 8)))+1)) (
 aw (((1+(ae .u8 ((ak .shr .u8 (A0 0) 4) - 8)))+1)≤x0) (
 aw (0≤x1) (
 aw (0≤(1+x1)) (
 aw ((1+x1)<x0) (
 eJ (x1+1) ((
 ∃(gM:Int) (KZ:Nat→Int),gM=(x1+1)∧(∀j,j<2→KZ j=(aA (ao (fun _=>0) 0 (ak .bJ .u64 (ak .shl .u64 (A1 0) 8) (ae .u64 (A0 (ag (1+x1)))))) 1 1 (aE A1 1)) j)∧RM ⟨[],[],[gM],[KZ],[],[],[]⟩∧TW ⟨[],[],[gM],[KZ],[],[],[]⟩<TW ⟨[],[],[x1],[A1],[],[],[]⟩)))))))) (
 Cl 32 [.int .u64 (A1 0)] [] fun x hs _=> ∃(v1:V1) (x2:Int) (A2:Nat→Int),x=v1.v∧hs=[bo v1 x2 A2]∧
 aw (0≤x2) (
 eJ (((1+(ae .u8 ((ak .shr .u8 (A0 0) 4) - 8)))+1) - 1) ((
 aZ (¬(x2=(((1+(ae .u8 ((ak .shr .u8 (A0 0) 4) - 8)))+1) - 1))) (
 ax (.tuple #[.agg #[.int .u64 0,.int .u64 0],.int .i64 0,.int .i64 9]) []) (
 aZ ((ak .aQ .u8 (A0 0) 15)<8) (
 ax (.tuple #[.agg #[.int .u64 (A1 0),.int .u64 (ae .u64 (ak .aQ .u8 (A0 0) 15))],.int .i64 ((1+(ae .u8 ((ak .shr .u8 (A0 0) 4) - 8)))+1),.int .i64 0]) []) (
 eJ (ae .u8 ((ak .aQ .u8 (A0 0) 15) - 8)) ((
 eJ (((1+(ae .u8 ((ak .shr .u8 (A0 0) 4) - 8)))+1)+(ae .u8 ((ak .aQ .u8 (A0 0) 15) - 8))) ((
 eJ ((((1+(ae .u8 ((ak .shr .u8 (A0 0) 4) - 8)))+1)+(ae .u8 ((ak .aQ .u8 (A0 0) 15) - 8)))+1) ((
 aw (0≤x0) (
 aZ (x0<((((1+(ae .u8 ((ak .shr .u8 (A0 0) 4) - 8)))+1)+(ae .u8 ((ak .aQ .u8 (A0 0) 15) - 8)))+1)) (
 ax (.tuple #[.agg #[.int .u64 0,.int .u64 0],.int .i64 0,.int .i64 9]) []) (
 aw (0≤((1+(ae .u8 ((ak .shr .u8 (A0 0) 4) - 8)))+1)) (
 aw (((1+(ae .u8 ((ak .shr .u8 (A0 0) 4) - 8)))+1)≤((((1+(ae .u8 ((ak .shr .u8 (A0 0) 4) - 8)))+1)+(ae .u8 ((ak .aQ .u8 (A0 0) 15) - 8)))+1)) (
 aw (((((1+(ae .u8 ((ak .shr .u8 (A0 0) 4) - 8)))+1)+(ae .u8 ((ak .aQ .u8 (A0 0) 15) - 8)))+1)≤x0) (
 aw (0≤(((((1+(ae .u8 ((ak .shr .u8 (A0 0) 4) - 8)))+1)+(ae .u8 ((ak .aQ .u8 (A0 0) 15) - 8)))+1) - ((1+(ae .u8 ((ak .shr .u8 (A0 0) 4) - 8)))+1))) (
 ∃(kT:Ext→Prop) (oO:Ext→Nat),(∃(x3:Int) (A3:Nat→Int),x3=0∧(∀j,j<2→A3 j=A1 j)∧kT ⟨[],[],[x3],[A3],[],[],[]⟩)∧
 ∀(x3:Int) (A3:Nat→Int),kT ⟨[],[],[x3],[A3],[],[],[]⟩→
 aZ (x3<(((((1+(ae .u8 ((ak .shr .u8 (A0 0) 4) - 8)))+1)+(ae .u8 ((ak .aQ .u8 (A0 0) 15) - 8)))+1) - ((1+(ae .u8 ((ak .shr .u8 (A0 0) 4) - 8)))+1))) (
 aw (0≤((1+(ae .u8 ((ak .shr .u8 (A0 0) 4) - 8)))+1)) (
 aw (((1+(ae .u8 ((ak .shr .u8 (A0 0) 4) - 8)))+1)≤((((1+(ae .u8 ((ak .shr .u8 (A0 0) 4) - 8)))+1)+(ae .u8 ((ak .aQ .u8 (A0 0) 15) - 8)))+1)) (
 aw (((((1+(ae .u8 ((ak .shr .u8 (A0 0) 4) - 8)))+1)+(ae .u8 ((ak .aQ .u8 (A0 0) 15) - 8)))+1)≤x0) (
 aw (0≤x3) (
 aw (0≤(((1+(ae .u8 ((ak .shr .u8 (A0 0) 4) - 8)))+1)+x3)) (
 aw ((((1+(ae .u8 ((ak .shr .u8 (A0 0) 4) - 8)))+1)+x3)<x0) (
 eJ (x3+1) ((
 ∃(fO:Int) (oN:Nat→Int),fO=(x3+1)∧(∀j,j<2→oN j=(ao (aA (fun _=>0) 0 1 A3) 1 (ak .bJ .u64 (ak .shl .u64 (A3 1) 8) (ae .u64 (A0 (ag (((1+(ae .u8 ((ak .shr .u8 (A0 0) 4) - 8)))+1)+x3)))))) j)∧kT ⟨[],[],[fO],[oN],[],[],[]⟩∧oO ⟨[],[],[fO],[oN],[],[],[]⟩<oO ⟨[],[],[x3],[A3],[],[],[]⟩))))))))) (
 Cl 32 [.int .u64 (A3 1)] [] fun x hs _=> ∃(v2:V1) (x4:Int) (A4:Nat→Int),x=v2.v∧hs=[bo v2 x4 A4]∧
 aw (0≤x4) (
 eJ (((((1+(ae .u8 ((ak .shr .u8 (A0 0) 4) - 8)))+1)+(ae .u8 ((ak .aQ .u8 (A0 0) 15) - 8)))+1) - ((1+(ae .u8 ((ak .shr .u8 (A0 0) 4) - 8)))+1)) ((
 aZ (¬(x4=(((((1+(ae .u8 ((ak .shr .u8 (A0 0) 4) - 8)))+1)+(ae .u8 ((ak .aQ .u8 (A0 0) 15) - 8)))+1) - ((1+(ae .u8 ((ak .shr .u8 (A0 0) 4) - 8)))+1)))) (
 ax (.tuple #[.agg #[.int .u64 0,.int .u64 0],.int .i64 0,.int .i64 9]) []) (
 ax (.tuple #[.agg #[.int .u64 (A3 0),.int .u64 (A3 1)],.int .i64 ((((1+(ae .u8 ((ak .shr .u8 (A0 0) 4) - 8)))+1)+(ae .u8 ((ak .aQ .u8 (A0 0) 15) - 8)))+1),.int .i64 0]) [])))))))))))))))))))))))))))))))))))))
theorem Lc(ax:PT)(x0:Int)(A0:Nat→Int)(v0:V1)(h:Dj ax x0 A0 v0):ar adE 20 [v0.v] [bi v0 x0 A0] ax:=
 NU (C:=Fm.cx) [.vv 0] [.bu false 0 5 1 (.var 0) [⟨.int .u8,1,.aO 0⟩]] ⟨0,1,1,1,0,0,0⟩ ⟨[x0],[A0],[],[],[v0],[],[],[]⟩ Try.func20 (by kernel_rfl) h
def wX(ax:PT)(x0:Int):Prop:=
 ∀_ _ _:Nat,aZ (((ao (ao (ao (ao (ao (fun _=>0) 20 1) 72 1) 104 1) 272 1) 336 1) (ag ((cI ((List.range 1).map (fun _=>x0)):Nat):Int)))≠0) (
 ax (.tuple #[.agg #[.int .u8 ((ao (ao (ao (ao (ao (fun _=>0) 20 1) 72 1) 104 1) 272 1) 336 2) (ag ((cI ((List.range 1).map (fun _=>x0)):Nat):Int))),.int .i64 ((ao (ao (ao (ao (ao (fun _=>0) 20 48) 72 48) 104 48) 272 16) 336 32) (ag ((cI ((List.range 1).map (fun _=>x0)):Nat):Int))),.int .i64 ((ao (ao (ao (ao (ao (fun _=>0) 20 16) 72 16) 104 16) 272 16) 336 32) (ag ((cI ((List.range 1).map (fun _=>x0)):Nat):Int))),.int .i64 ((ao (ao (ao (ao (ao (fun _=>0) 20 10) 72 8) 104 4) 272 16) 336 16) (ag ((cI ((List.range 1).map (fun _=>x0)):Nat):Int))),.int .i64 ((ao (ao (ao (ao (ao (fun _=>0) 20 32) 72 32) 104 32) 272 32) 336 64) (ag ((cI ((List.range 1).map (fun _=>x0)):Nat):Int)))],.int .i64 0]) []) (
 ax (.tuple #[.agg #[.int .u8 0,.int .i64 0,.int .i64 0,.int .i64 0,.int .i64 0],.int .i64 130]) [])
theorem FV(ax:PT)(x0:Int)(h:wX ax x0):ar adE 5 [.int .u16 x0] [] ax:=
 NU (C:=Fm.cx) [.int .u16 (.var 0)] [] ⟨0,0,1,0,0,0,0⟩ ⟨[x0],[],[],[],[],[],[],[]⟩ Try.func5 (by kernel_rfl) h
def Ad(ax:PT)(_ _ x2:Int)(_ A1:Nat→Int)(_:V1):Prop:=
 ∀_ _ _:Nat,ax (.agg (ads (aj .u8 4 A1) ([.int .u8 (ak .aD .u8 (A1 4) (ae .u8 (ak .shr .u64 x2 56))),.int .u8 (ak .aD .u8 (A1 5) (ae .u8 (ak .shr .u64 x2 48))),.int .u8 (ak .aD .u8 (A1 6) (ae .u8 (ak .shr .u64 x2 40))),.int .u8 (ak .aD .u8 (A1 7) (ae .u8 (ak .shr .u64 x2 32))),.int .u8 (ak .aD .u8 (A1 8) (ae .u8 (ak .shr .u64 x2 24))),.int .u8 (ak .aD .u8 (A1 9) (ae .u8 (ak .shr .u64 x2 16))),.int .u8 (ak .aD .u8 (A1 10) (ae .u8 (ak .shr .u64 x2 8))),.int .u8 (ak .aD .u8 (A1 11) (ae .u8 (ak .shr .u64 x2 0)))])).toArray) []
theorem Ja(ax:PT)(x0 x1 x2:Int)(A0 A1:Nat→Int)(v0:V1)(h:Ad ax x0 x1 x2 A0 A1 v0):ar adE 35 [.agg (.int .u16 x0::(.int .u64 x1::(v0.v::(ads (aj .u8 12 A1) ([]))))).toArray,.int .u64 x2] [] ax:=
 NU (C:=Fm.cx) [.agg [.int .u16 (.var 0),.int .u64 (.var 1),.vv 0,.cD .u8 12 (.aO 1)],.int .u64 (.var 2)] [] ⟨0,1,3,2,0,0,0⟩ ⟨[x0,x1,x2],[A0,A1],[],[],[v0],[],[],[]⟩ Try.func35 (by kernel_rfl) h
def wY(ax:PT)(x0 x1:Int)(A0 A1:Nat→Int)(v0 v1:V1)(b0:Nat):Prop:=
 aw (0≤x0) (
 eJ x0 ((
 aZ (x0<0) (
 False) (
 aw (0≤x1) (
 eJ (x0+x1) ((
 aZ ((x0+x1)<0) (
 False) (
 aZ (0<(x0+x1)) (
 aw (0≤(x0+x1)) (
 fx (x0+x1) (
 ∀_:V1,fx x0 (
 ∀_ v4:V1,ax (v4.v) [aq b0 true ([v0.v,v1.v]),bo v4 (x0+x1) (aA A0 (ag x0) (ag x1) A1)])))) (
 fx x0 (
 ∀_:V1,fx (x0+x1) (
 ∀v3:V1,ax (v3.v) [aq b0 true ([v0.v,v1.v]),bo v3 (x0+x1) (aA A0 (ag x0) (ag x1) A1)])))))))))))
theorem FX(ax:PT)(x0 x1:Int)(A0 A1:Nat→Int)(v0 v1:V1)(b0:Nat)(h:wY ax x0 x1 A0 A1 v0 v1 b0):ar adE 19 [.slice (some ⟨b0,0,none⟩) 2 2] [aq b0 true ([v0.v,v1.v]),bi v0 x0 A0,bi v1 x1 A1] ax:=
 s5 (C:=Fm.cx) [.sl 0 (.lit 0) 1 (.lit 2) (.lit 2)] [.row 0 true [.vv 0,.vv 1],.bu false 0 5 1 (.var 0) [⟨.int .u8,1,.aO 0⟩],.bu false 1 5 1 (.var 1) [⟨.int .u8,1,.aO 1⟩]] ⟨1,2,2,2,0,0,0⟩ ⟨[x0,x1],[A0,A1],[],[b0],[v0,v1],[],[],[]⟩ 1 1 Try.func19 (by kernel_rfl) h
def Dk(ax:PT)(x0 x1 x2 x3 x4 x5:Int)(A0 A1 A2 A3:Nat→Int)(v0 v1 v2:V1):Prop:=
 ∀b0 b1 b2:Nat,Cl 5 [.int .u16 x0] [] fun x hs _=> ∃x6 x7 x8 x9 eK ib:Int,x= .tuple #[.agg #[.int .u8 x6,.int .i64 x7,.int .i64 x8,.int .i64 x9,.int .i64 eK],.int .i64 ib]∧hs=[]∧
 ∀b3:Nat,aZ (¬(ib=0)) (
 ∀b4:Nat,ax (.tuple #[.slice none 0 0,.int .i64 ib]) [bi v0 x3 A0,bi v1 x4 A2,bi v2 x5 A3,aq b0 true (.int .u16 x0::(.int .u64 x1::(v0.v::(ads (aj .u8 12 A1) ([]))))),aq b1 true (.int .u16 x0::(.int .u64 x1::(v0.v::(ads (aj .u8 12 A1) ([]))))),aq b2 true ([.int .u8 x6,.int .i64 x7,.int .i64 x8,.int .i64 x9,.int .i64 eK]),aq b3 true ([.int .u8 x6,.int .i64 x7,.int .i64 x8,.int .i64 x9,.int .i64 eK]),aq b4 true ([.int .u8 x6,.int .i64 x7,.int .i64 x8,.int .i64 x9,.int .i64 eK])]) (
 aw (0≤x3) (
 aZ (¬(x3=x7)) (
 ∀b4:Nat,ax (.tuple #[.slice none 0 0,.int .i64 2]) [bi v0 x3 A0,bi v1 x4 A2,bi v2 x5 A3,aq b0 true (.int .u16 x0::(.int .u64 x1::(v0.v::(ads (aj .u8 12 A1) ([]))))),aq b1 true (.int .u16 x0::(.int .u64 x1::(v0.v::(ads (aj .u8 12 A1) ([]))))),aq b2 true ([.int .u8 x6,.int .i64 x7,.int .i64 x8,.int .i64 x9,.int .i64 eK]),aq b3 true ([.int .u8 x6,.int .i64 x7,.int .i64 x8,.int .i64 x9,.int .i64 eK]),aq b4 true ([.int .u8 x6,.int .i64 x7,.int .i64 x8,.int .i64 x9,.int .i64 eK])]) (
 aw (0≤x4) (
 aZ (1024<x4) (
 ∀b4:Nat,ax (.tuple #[.slice none 0 0,.int .i64 3]) [bi v0 x3 A0,bi v1 x4 A2,bi v2 x5 A3,aq b0 true (.int .u16 x0::(.int .u64 x1::(v0.v::(ads (aj .u8 12 A1) ([]))))),aq b1 true (.int .u16 x0::(.int .u64 x1::(v0.v::(ads (aj .u8 12 A1) ([]))))),aq b2 true ([.int .u8 x6,.int .i64 x7,.int .i64 x8,.int .i64 x9,.int .i64 eK]),aq b3 true ([.int .u8 x6,.int .i64 x7,.int .i64 x8,.int .i64 x9,.int .i64 eK]),aq b4 true ([.int .u8 x6,.int .i64 x7,.int .i64 x8,.int .i64 x9,.int .i64 eK])]) (
 ∀b4:Nat,aw (0≤x5) (
 aZ (65536<x5) (
 ax (.tuple #[.slice none 0 0,.int .i64 3]) [bi v0 x3 A0,bi v1 x4 A2,bi v2 x5 A3,aq b0 true (.int .u16 x0::(.int .u64 x1::(v0.v::(ads (aj .u8 12 A1) ([]))))),aq b1 true (.int .u16 x0::(.int .u64 x1::(v0.v::(ads (aj .u8 12 A1) ([]))))),aq b2 true ([.int .u8 x6,.int .i64 x7,.int .i64 x8,.int .i64 x9,.int .i64 eK]),aq b3 true ([.int .u8 x6,.int .i64 x7,.int .i64 x8,.int .i64 x9,.int .i64 eK]),aq b4 true ([.int .u8 x6,.int .i64 x7,.int .i64 x8,.int .i64 x9,.int .i64 eK])]) (
 Cl 17 [.agg #[.int .u64 x1,.int .u64 x2]] [] fun x hs _=> ∃(v3:V1) (ic:Int) (A4:Nat→Int),x=v3.v∧hs=[bo v3 ic A4]∧
 ∀_ _ _:Nat,aZ (x7=x8) (
 ∀b8:Nat,Cl 19 [.slice (some ⟨b8,0,none⟩) 2 2] [aq b8 true ([v3.v,v1.v]),bo v3 ic A4,bi v1 x4 A2] fun x hs l=> ∃(v4:V1) (cU:Int) (A5:Nat→Int),x=v4.v∧hs=l++[bo v4 cU A5]∧
 Cl 35 [.agg (.int .u16 x0::(.int .u64 x1::(v0.v::(ads (aj .u8 12 A1) ([]))))).toArray,.int .u64 x2] [] fun x hs _=> ∃A6:(Nat→Int),x= .agg (ads (aj .u8 12 A6) ([])).toArray∧hs=[]∧
 Cl 34 [v0.v,.agg (ads (aj .u8 12 A6) ([])).toArray,v4.v,v2.v] [bi v0 x3 A0,bo v4 cU A5,bi v2 x5 A3] fun x hs l=> ∃(v5:V1) (mb ji:Int) (A7:Nat→Int),x= .tuple #[v5.v,.int .i64 ji]∧hs=l++[bo v5 mb A7]∧
 aw (0≤mb) (
 aw (0≤ic) (
 aw (0≤mb) (
 fx (ic+mb) (
 ∀v6:V1,ax (.tuple #[v6.v,.int .i64 0]) [bi v0 x3 A0,bi v1 x4 A2,bi v2 x5 A3,aq b0 true (.int .u16 x0::(.int .u64 x1::(v0.v::(ads (aj .u8 12 A1) ([]))))),aq b1 true (.int .u16 x0::(.int .u64 x1::(v0.v::(ads (aj .u8 12 A1) ([]))))),aq b2 true ([.int .u8 x6,.int .i64 x7,.int .i64 x8,.int .i64 x9,.int .i64 eK]),aq b3 true ([.int .u8 x6,.int .i64 x7,.int .i64 x8,.int .i64 x9,.int .i64 eK]),aq b4 true ([.int .u8 x6,.int .i64 x7,.int .i64 x8,.int .i64 x9,.int .i64 eK]),bo v6 (ic+mb) (aA A4 (ag ic) (ag mb) A7)]))))) (
 aw (0≤x8) (
 aw (x8≤x3) (
 Cl 10 [(aC 1 v0.v 0 (ag x8) none)] [bi v0 x3 A0] fun x hs l=> ∃(b8:Nat) (v4:V1) (cU:Int) (A5 A6:Nat→Int),x= .tuple #[.pointer (some ⟨b8,0,none⟩),.int .i64 0]∧hs=l++[aq b8 true (ads (aj .u8 256 A5) ([v4.v])),au true 73 4 v4.v (ag cU) (aK (ag cU) [aJ .u8 4 A6])]∧
 ∀_ _ _ QE:Nat,Cl 19 [.slice (some ⟨QE,0,none⟩) 2 2] [aq QE true ([v3.v,v1.v]),bo v3 ic A4,bi v1 x4 A2] fun x hs l=> ∃(v5:V1) (mb:Int) (A7:Nat→Int),x=v5.v∧hs=l++[bo v5 mb A7]∧
 ∀_:Nat,Cl 35 [.agg (.int .u16 x0::(.int .u64 x1::(v0.v::(ads (aj .u8 12 A1) ([]))))).toArray,.int .u64 x2] [] fun x hs _=> ∃A8:(Nat→Int),x= .agg (ads (aj .u8 12 A8) ([])).toArray∧hs=[]∧
 ∀_ KK:Nat,Cl 39 [.pointer (some ⟨b8,0,none⟩),.agg (ads (aj .u8 16 (aA (fun _=>0) 0 12 A8)) ([])).toArray,.slice (some ⟨KK,0,none⟩) 1 1] [aq b8 true (ads (aj .u8 256 A5) ([v4.v])),au true 73 4 v4.v (ag cU) (aK (ag cU) [aJ .u8 4 A6]),aq KK true ([v2.v]),bi v2 x5 A3] fun x hs l=> ∃(v6:V1) (ji:Int) (A9:Nat→Int),x= .tuple #[v6.v,.int .i64 0]∧hs=l++[bo v6 ji A9]∧
 Cl 35 [.agg (.int .u16 x0::(.int .u64 x1::(v0.v::(ads (aj .u8 12 A1) ([]))))).toArray,.int .u64 x2] [] fun x hs _=> ∃br:(Nat→Int),x= .agg (ads (aj .u8 12 br) ([])).toArray∧hs=[]∧
 ∀Dg:Nat,aw (0≤mb) (
 aw (0≤ji) (
 Cl 41 [.int .i64 mb] [] fun x hs _=> ∃(v7:V1) (jM:Nat→Int),x=v7.v∧hs=[bn true v7 8 jM]∧
 Cl 41 [.int .i64 ji] [] fun x hs _=> ∃(v8:V1) (lG:Nat→Int),x=v8.v∧hs=[bn true v8 8 lG]∧
 Cl 41 [.int .i64 x9] [] fun x hs _=> ∃(v9:V1) (ov:Nat→Int),x=v9.v∧hs=[bn true v9 8 ov]∧
 ∀QF:Nat,Cl 31 [.int .u8 x6,(aC 1 v0.v (ag x8) (ag x3) none),.slice (some ⟨QF,0,none⟩) 6 6] [bi v0 x3 A0,aq QF true ([v7.v,v8.v,v9.v,.slice (some ⟨Dg,0,none⟩) 12 12,v5.v,v6.v]),bn true v7 8 jM,bn true v8 8 lG,bn true v9 8 ov,aq Dg true (ads (aj .u8 12 br) ([])),bo v5 mb A7,bo v6 ji A9] fun x hs l=> ∃(v10:V1) (oI:Int) (qx:Nat→Int),x=v10.v∧hs=l++[bo v10 oI qx]∧
 aw (0≤x9) (
 aw (x9≤oI) (
 fx (ji+x9) (
 ∀_:V1,aw (0≤(ji+x9)) (
 aw (0≤ic) (
 aw (0≤(ji+x9)) (
 fx (ic+(ji+x9)) (
 ∀gI:V1,ax (.tuple #[gI.v,.int .i64 0]) [bi v0 x3 A0,bi v1 x4 A2,bi v2 x5 A3,aq b0 true (.int .u16 x0::(.int .u64 x1::(v0.v::(ads (aj .u8 12 A1) ([]))))),aq b1 true (.int .u16 x0::(.int .u64 x1::(v0.v::(ads (aj .u8 12 A1) ([]))))),aq b2 true ([.int .u8 x6,.int .i64 x7,.int .i64 x8,.int .i64 x9,.int .i64 eK]),aq b3 true ([.int .u8 x6,.int .i64 x7,.int .i64 x8,.int .i64 x9,.int .i64 eK]),aq b4 true ([.int .u8 x6,.int .i64 x7,.int .i64 x8,.int .i64 x9,.int .i64 eK]),bo gI (ic+(ji+x9)) (aA A4 (ag ic) (ag (ji+x9)) (aA A9 (ag ji) (ag x9) qx))])))))))))))))))))))
theorem Ld(ax:PT)(x0 x1 x2 x3 x4 x5:Int)(A0 A1 A2 A3:Nat→Int)(v0 v1 v2:V1)(h:Dk ax x0 x1 x2 x3 x4 x5 A0 A1 A2 A3 v0 v1 v2):ar adE 7 [.agg (.int .u16 x0::(.int .u64 x1::(v0.v::(ads (aj .u8 12 A1) ([]))))).toArray,.int .u64 x2,v1.v,v2.v] [bi v0 x3 A0,bi v1 x4 A2,bi v2 x5 A3] ax:=
 Bf (C:=Fm.cx) [.agg [.int .u16 (.var 0),.int .u64 (.var 1),.vv 0,.cD .u8 12 (.aO 1)],.int .u64 (.var 2),.vv 1,.vv 2] [.bu false 0 5 1 (.var 3) [⟨.int .u8,1,.aO 0⟩],.bu false 1 5 1 (.var 4) [⟨.int .u8,1,.aO 2⟩],.bu false 2 5 1 (.var 5) [⟨.int .u8,1,.aO 3⟩]] ⟨0,3,6,4,0,0,0⟩ ⟨[x0,x1,x2,x3,x4,x5],[A0,A1,A2,A3],[],[],[v0,v1,v2],[],[],[]⟩ 9 Try.func7 (by kernel_rfl) h
def Dl(ax:PT)(x0 x1 x2 x3 x4:Int)(A0 A1 A2 A3:Nat→Int)(v0 v1 v2:V1):Prop:=
 ∀_ _ _:Nat,Cl 5 [.int .u16 x0] [] fun x hs _=> ∃x5 x6 x7 x8 x9 eK:Int,x= .tuple #[.agg #[.int .u8 x5,.int .i64 x6,.int .i64 x7,.int .i64 x8,.int .i64 x9],.int .i64 eK]∧hs=[]∧
 ∀_:Nat,aZ (¬(eK=0)) (
 ∀b4:Nat,ax (.tuple #[.slice none 0 0,.int .u64 0,.int .i64 eK]) [aq b4 true ([.int .u8 x5,.int .i64 x6,.int .i64 x7,.int .i64 x8,.int .i64 x9])]) (
 aw (0≤x2) (
 aZ (¬(x2=x6)) (
 ∀b4:Nat,ax (.tuple #[.slice none 0 0,.int .u64 0,.int .i64 2]) [aq b4 true ([.int .u8 x5,.int .i64 x6,.int .i64 x7,.int .i64 x8,.int .i64 x9])]) (
 aw (0≤x3) (
 aZ (1024<x3) (
 ∀b4:Nat,ax (.tuple #[.slice none 0 0,.int .u64 0,.int .i64 3]) [aq b4 true ([.int .u8 x5,.int .i64 x6,.int .i64 x7,.int .i64 x8,.int .i64 x9])]) (
 ∀_:Nat,Cl 20 [v2.v] [bi v2 x4 A3] fun x hs l=> ∃ib ic cU mb:Int,x= .tuple #[.agg #[.int .u64 ib,.int .u64 ic],.int .i64 cU,.int .i64 mb]∧hs=l∧
 ∀b5:Nat,aZ (¬(mb=0)) (
 ax (.tuple #[.slice none 0 0,.int .u64 0,.int .i64 mb]) [aq b5 true ([.int .u64 ib,.int .u64 ic])]) (
 aZ (¬(ib=x1)) (
 ax (.tuple #[.slice none 0 0,.int .u64 0,.int .i64 4]) [aq b5 true ([.int .u64 ib,.int .u64 ic])]) (
 aw (0≤x4) (
 eJ (x4 - cU) ((
 eJ (65536+x8) ((
 aZ ((65536+x8)<(x4 - cU)) (
 ax (.tuple #[.slice none 0 0,.int .u64 0,.int .i64 3]) [aq b5 true ([.int .u64 ib,.int .u64 ic])]) (
 aw (0≤cU) (
 aw (cU≤x4) (
 (∀_ _ _:Nat,aZ (x6=x7) (
 ∀b9:Nat,Cl 19 [.slice (some ⟨b9,0,none⟩) 2 2] [aq b9 true ([(aC 1 v2.v 0 (ag cU) none),v1.v]),bi v2 x4 A3,bi v1 x3 A2] fun x hs l=> ∃(v3:V1) (ji:Int) (A4:Nat→Int),x=v3.v∧hs=l++[bo v3 ji A4]∧
 Cl 35 [.agg (.int .u16 x0::(.int .u64 x1::(v0.v::(ads (aj .u8 12 A1) ([]))))).toArray,.int .u64 ic] [] fun x hs _=> ∃A5:(Nat→Int),x= .agg (ads (aj .u8 12 A5) ([])).toArray∧hs=[]∧
 Cl 37 [v0.v,.agg (ads (aj .u8 12 A5) ([])).toArray,v3.v,(aC 1 v2.v (ag cU) (ag x4) none)] [bi v0 x2 A0,bo v3 ji A4,bi v2 x4 A3] fun x hs l=> ∃(v4:V1) (oI jN:Int) (A6:Nat→Int),x= .tuple #[v4.v,.int .i64 jN]∧hs=l++[bo v4 oI A6]∧
 aZ (¬(jN=0)) (
 ax (.tuple #[.slice none 0 0,.int .u64 0,.int .i64 jN]) [bo v4 oI A6]) (
 ax (.tuple #[v4.v,.int .u64 ic,.int .i64 0]) [bo v4 oI A6])) (
 aw (0≤x7) (
 aw (x7≤x2) (
 Cl 10 [(aC 1 v0.v 0 (ag x7) none)] [bi v0 x2 A0] fun x hs l=> ∃(b9:Nat) (v3:V1) (ji:Int) (A4 A5:Nat→Int),x= .tuple #[.pointer (some ⟨b9,0,none⟩),.int .i64 0]∧hs=l++[aq b9 true (ads (aj .u8 256 A4) ([v3.v])),au true 73 4 v3.v (ag ji) (aK (ag ji) [aJ .u8 4 A5])]∧
 ∀_ _ _ Oj:Nat,Cl 19 [.slice (some ⟨Oj,0,none⟩) 2 2] [aq Oj true ([(aC 1 v2.v 0 (ag cU) none),v1.v]),bi v2 x4 A3,bi v1 x3 A2] fun x hs l=> ∃(v4:V1) (oI:Int) (A6:Nat→Int),x=v4.v∧hs=l++[bo v4 oI A6]∧
 aw (0≤(x4 - cU)) (
 eJ ((x4 - cU) - x8) ((
 aw ((((x4 - cU) - x8)<0)∨(0≤cU)) (
 aw ((((x4 - cU) - x8)<0)∨(cU≤x4)) (
 aw ((((x4 - cU) - x8)<0)∨(0≤((x4 - cU) - x8))) (
 aw ((((x4 - cU) - x8)<0)∨((cU+((x4 - cU) - x8))≤x4)) (
 aw ((((x4 - cU) - x8)<0)∨(0≤cU)) (
 aw ((((x4 - cU) - x8)<0)∨(cU≤x4)) (
 aw ((((x4 - cU) - x8)<0)∨(0≤((x4 - cU) - x8))) (
 aw ((((x4 - cU) - x8)<0)∨(((x4 - cU) - x8)≤(x4 - cU))) (
 aw ((((x4 - cU) - x8)<0)∨((cU+(x4 - cU))≤x4)) (
 aZ (¬(((x4 - cU) - x8)<0)) (
 Cl 35 [.agg (.int .u16 x0::(.int .u64 x1::(v0.v::(ads (aj .u8 12 A1) ([]))))).toArray,.int .u64 ic] [] fun x hs _=> ∃A7:(Nat→Int),x= .agg (ads (aj .u8 12 A7) ([])).toArray∧hs=[]∧
 ∀KJ:Nat,aw (0≤oI) (
 aw (0≤((x4 - cU) - x8)) (
 aw ((cU+((x4 - cU) - x8))≤x4) (
 aw (0≤((x4 - cU) - x8)) (
 Cl 41 [.int .i64 oI] [] fun x hs _=> ∃(v5:V1) (A8:Nat→Int),x=v5.v∧hs=[bn true v5 8 A8]∧
 Cl 41 [.int .i64 ((x4 - cU) - x8)] [] fun x hs _=> ∃(v6:V1) (A9:Nat→Int),x=v6.v∧hs=[bn true v6 8 A9]∧
 Cl 41 [.int .i64 x8] [] fun x hs _=> ∃(v7:V1) (br:Nat→Int),x=v7.v∧hs=[bn true v7 8 br]∧
 ∀KK:Nat,Cl 31 [.int .u8 x5,(aC 1 v0.v (ag x7) (ag x2) none),.slice (some ⟨KK,0,none⟩) 6 6] [bi v0 x2 A0,aq KK true ([v5.v,v6.v,v7.v,.slice (some ⟨KJ,0,none⟩) 12 12,v4.v,(aC 1 (aC 1 v2.v (ag cU) (ag x4) none) 0 (ag ((x4 - cU) - x8)) none)]),bn true v5 8 A8,bn true v6 8 A9,bn true v7 8 br,aq KJ true (ads (aj .u8 12 A7) ([])),bo v4 oI A6,bi v2 x4 A3] fun x hs l=> ∃(v8:V1) (jN:Int) (jM:Nat→Int),x=v8.v∧hs=l++[bo v8 jN jM]∧
 aw (0≤x8) (
 aw (x8≤jN) (
 Cl 44 [(aC 1 v8.v 0 (ag x8) none),(if(!(decide (((x4 - cU) - x8)<0)))then(aC 1 (aC 1 v2.v (ag cU) (ag x4) none) (ag ((x4 - cU) - x8)) (ag (x4 - cU)) none)else undef)] [bo v8 jN jM,bi v2 x4 A3] fun x hs l=> ∃q0:Bool,x= .bool q0∧hs=l∧
 aZ (¬(q0=true)) (
 ax (.tuple #[.slice none 0 0,.int .u64 0,.int .i64 140]) [bo v8 jN jM]) (
 ∀_:Nat,Cl 35 [.agg (.int .u16 x0::(.int .u64 x1::(v0.v::(ads (aj .u8 12 A1) ([]))))).toArray,.int .u64 ic] [] fun x hs _=> ∃lG:(Nat→Int),x= .agg (ads (aj .u8 12 lG) ([])).toArray∧hs=[]∧
 ∀_ KH:Nat,Cl 39 [.pointer (some ⟨b9,0,none⟩),.agg (ads (aj .u8 16 (aA (fun _=>0) 0 12 lG)) ([])).toArray,.slice (some ⟨KH,0,none⟩) 1 1] [aq b9 true (ads (aj .u8 256 A4) ([v3.v])),au true 73 4 v3.v (ag ji) (aK (ag ji) [aJ .u8 4 A5]),aq KH true ([(aC 1 (aC 1 v2.v (ag cU) (ag x4) none) 0 (ag ((x4 - cU) - x8)) none)]),bi v2 x4 A3] fun x hs l=> ∃(v9:V1) (wZ:Int) (ov:Nat→Int),x= .tuple #[v9.v,.int .i64 0]∧hs=l++[bo v9 wZ ov]∧
 ax (.tuple #[v9.v,.int .u64 ic,.int .i64 0]) [bo v9 wZ ov])))))))) (
 ax (.tuple #[.slice none 0 0,.int .u64 0,.int .i64 140]) [bo v4 oI A6])))))))))))))))))∧
 (∀b6 _ _ _:Nat,aZ (x6=x7) (
 Cl 19 [.slice (some ⟨b6,0,none⟩) 2 2] [aq b6 true ([(aC 1 v2.v 0 (ag cU) none),v1.v]),bi v2 x4 A3,bi v1 x3 A2] fun x hs l=> ∃(v3:V1) (ji:Int) (A4:Nat→Int),x=v3.v∧hs=l++[bo v3 ji A4]∧
 Cl 35 [.agg (.int .u16 x0::(.int .u64 x1::(v0.v::(ads (aj .u8 12 A1) ([]))))).toArray,.int .u64 ic] [] fun x hs _=> ∃A5:(Nat→Int),x= .agg (ads (aj .u8 12 A5) ([])).toArray∧hs=[]∧
 Cl 37 [v0.v,.agg (ads (aj .u8 12 A5) ([])).toArray,v3.v,(aC 1 v2.v (ag cU) (ag x4) none)] [bi v0 x2 A0,bo v3 ji A4,bi v2 x4 A3] fun x hs l=> ∃(v4:V1) (oI jN:Int) (A6:Nat→Int),x= .tuple #[v4.v,.int .i64 jN]∧hs=l++[bo v4 oI A6]∧
 aZ (¬(jN=0)) (
 ax (.tuple #[.slice none 0 0,.int .u64 0,.int .i64 jN]) [bo v4 oI A6]) (
 ax (.tuple #[v4.v,.int .u64 ic,.int .i64 0]) [bo v4 oI A6])) (
 aw (0≤x7) (
 aw (x7≤x2) (
 Cl 10 [(aC 1 v0.v 0 (ag x7) none)] [bi v0 x2 A0] fun x hs l=> ∃(Oi:Nat) (v3:V1) (ji:Int) (A4 A5:Nat→Int),x= .tuple #[.pointer (some ⟨Oi,0,none⟩),.int .i64 0]∧hs=l++[aq Oi true (ads (aj .u8 256 A4) ([v3.v])),au true 73 4 v3.v (ag ji) (aK (ag ji) [aJ .u8 4 A5])]∧
 ∀_ _ _:Nat,Cl 19 [.slice (some ⟨b6,0,none⟩) 2 2] [aq b6 true ([(aC 1 v2.v 0 (ag cU) none),v1.v]),bi v2 x4 A3,bi v1 x3 A2] fun x hs l=> ∃(v4:V1) (oI:Int) (A6:Nat→Int),x=v4.v∧hs=l++[bo v4 oI A6]∧
 aw (0≤(x4 - cU)) (
 eJ ((x4 - cU) - x8) ((
 aw ((((x4 - cU) - x8)<0)∨(0≤cU)) (
 aw ((((x4 - cU) - x8)<0)∨(cU≤x4)) (
 aw ((((x4 - cU) - x8)<0)∨(0≤((x4 - cU) - x8))) (
 aw ((((x4 - cU) - x8)<0)∨((cU+((x4 - cU) - x8))≤x4)) (
 aw ((((x4 - cU) - x8)<0)∨(0≤cU)) (
 aw ((((x4 - cU) - x8)<0)∨(cU≤x4)) (
 aw ((((x4 - cU) - x8)<0)∨(0≤((x4 - cU) - x8))) (
 aw ((((x4 - cU) - x8)<0)∨(((x4 - cU) - x8)≤(x4 - cU))) (
 aw ((((x4 - cU) - x8)<0)∨((cU+(x4 - cU))≤x4)) (
 aZ (¬(((x4 - cU) - x8)<0)) (
 Cl 35 [.agg (.int .u16 x0::(.int .u64 x1::(v0.v::(ads (aj .u8 12 A1) ([]))))).toArray,.int .u64 ic] [] fun x hs _=> ∃A7:(Nat→Int),x= .agg (ads (aj .u8 12 A7) ([])).toArray∧hs=[]∧
 ∀KJ:Nat,aw (0≤oI) (
 aw (0≤((x4 - cU) - x8)) (
 aw ((cU+((x4 - cU) - x8))≤x4) (
 aw (0≤((x4 - cU) - x8)) (
 Cl 41 [.int .i64 oI] [] fun x hs _=> ∃(v5:V1) (A8:Nat→Int),x=v5.v∧hs=[bn true v5 8 A8]∧
 Cl 41 [.int .i64 ((x4 - cU) - x8)] [] fun x hs _=> ∃(v6:V1) (A9:Nat→Int),x=v6.v∧hs=[bn true v6 8 A9]∧
 Cl 41 [.int .i64 x8] [] fun x hs _=> ∃(v7:V1) (br:Nat→Int),x=v7.v∧hs=[bn true v7 8 br]∧
 ∀KK:Nat,Cl 31 [.int .u8 x5,(aC 1 v0.v (ag x7) (ag x2) none),.slice (some ⟨KK,0,none⟩) 6 6] [bi v0 x2 A0,aq KK true ([v5.v,v6.v,v7.v,.slice (some ⟨KJ,0,none⟩) 12 12,v4.v,(aC 1 (aC 1 v2.v (ag cU) (ag x4) none) 0 (ag ((x4 - cU) - x8)) none)]),bn true v5 8 A8,bn true v6 8 A9,bn true v7 8 br,aq KJ true (ads (aj .u8 12 A7) ([])),bo v4 oI A6,bi v2 x4 A3] fun x hs l=> ∃(v8:V1) (jN:Int) (jM:Nat→Int),x=v8.v∧hs=l++[bo v8 jN jM]∧
 aw (0≤x8) (
 aw (x8≤jN) (
 Cl 44 [(aC 1 v8.v 0 (ag x8) none),(if(!(decide (((x4 - cU) - x8)<0)))then(aC 1 (aC 1 v2.v (ag cU) (ag x4) none) (ag ((x4 - cU) - x8)) (ag (x4 - cU)) none)else undef)] [bo v8 jN jM,bi v2 x4 A3] fun x hs l=> ∃q0:Bool,x= .bool q0∧hs=l∧
 aZ (¬(q0=true)) (
 ax (.tuple #[.slice none 0 0,.int .u64 0,.int .i64 140]) [bo v8 jN jM]) (
 ∀_:Nat,Cl 35 [.agg (.int .u16 x0::(.int .u64 x1::(v0.v::(ads (aj .u8 12 A1) ([]))))).toArray,.int .u64 ic] [] fun x hs _=> ∃lG:(Nat→Int),x= .agg (ads (aj .u8 12 lG) ([])).toArray∧hs=[]∧
 ∀_ KH:Nat,Cl 39 [.pointer (some ⟨Oi,0,none⟩),.agg (ads (aj .u8 16 (aA (fun _=>0) 0 12 lG)) ([])).toArray,.slice (some ⟨KH,0,none⟩) 1 1] [aq Oi true (ads (aj .u8 256 A4) ([v3.v])),au true 73 4 v3.v (ag ji) (aK (ag ji) [aJ .u8 4 A5]),aq KH true ([(aC 1 (aC 1 v2.v (ag cU) (ag x4) none) 0 (ag ((x4 - cU) - x8)) none)]),bi v2 x4 A3] fun x hs l=> ∃(v9:V1) (wZ:Int) (ov:Nat→Int),x= .tuple #[v9.v,.int .i64 0]∧hs=l++[bo v9 wZ ov]∧
 ax (.tuple #[v9.v,.int .u64 ic,.int .i64 0]) [bo v9 wZ ov])))))))) (
 ax (.tuple #[.slice none 0 0,.int .u64 0,.int .i64 140]) [bo v4 oI A6]))))))))))))))))))))))))))))))))
theorem Lf(ax:PT)(x0 x1 x2 x3 x4:Int)(A0 A1 A2 A3:Nat→Int)(v0 v1 v2:V1)(h:Dl ax x0 x1 x2 x3 x4 A0 A1 A2 A3 v0 v1 v2):ar adE 8 [.agg (.int .u16 x0::(.int .u64 x1::(v0.v::(ads (aj .u8 12 A1) ([]))))).toArray,v1.v,v2.v] [bi v0 x2 A0,bi v1 x3 A2,bi v2 x4 A3] ax:=
 s5 (C:=Fm.cx) [.agg [.int .u16 (.var 0),.int .u64 (.var 1),.vv 0,.cD .u8 12 (.aO 1)],.vv 1,.vv 2] [.bu false 0 5 1 (.var 2) [⟨.int .u8,1,.aO 0⟩],.bu false 1 5 1 (.var 3) [⟨.int .u8,1,.aO 2⟩],.bu false 2 5 1 (.var 4) [⟨.int .u8,1,.aO 3⟩]] ⟨0,3,5,4,0,0,0⟩ ⟨[x0,x1,x2,x3,x4],[A0,A1,A2,A3],[],[],[v0,v1,v2],[],[],[]⟩ 0 1 Try.func8 (by kernel_rfl) h
end Go.RX.Fm
