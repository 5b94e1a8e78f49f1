/- Frames. -/
import Derived.Test.YtmgbbbmdbpbeeaaGreatM24
open Go.IntKind renaming wrap → ae
open Go.Proofs.Tryz renaming prog → ae0
open Int renaming toNat → ag
open List renaming append → aeU
namespace Go.RX.Fm
open Go.RX Go.Proofs Go.RX.Fe Go.RX.Fg Go.RX.Fi Go.RX.Fj Go.RX.Fk Go.RX.Fl
noncomputable def cx:Ctx:={T:=TT,FT:=FT,loops:=Fm.loops,cq:=Fm.cq}
set_option maxRecDepth 100000
def oW(ar:PT)(A0 A1 A2:Nat→Int)(v0 v1 _:V1)(b0:Nat):Prop:=
 ∀_:V1,∃(bE:Ext→Prop) (bL:Ext→Nat),(∃(x0:Int) (A3:Nat→Int),x0=0∧(∀j,j<64→A3 j=(fun _=>0) j)∧bE ⟨[],[],[x0],[A3],[],[],[]⟩)∧
 ∀(x0:Int) (A3:Nat→Int),bE ⟨[],[],[x0],[A3],[],[],[]⟩→
 aR (x0<64) (
 ao (0≤(ae .i64 (ak .quo .i64 x0 4))) (
 ao ((ae .i64 (ak .quo .i64 x0 4))<64) (
 ao (0≤x0) (
 bH (x0+1) ((
 ∃(eH:Int) (kW:Nat→Int),eH=(x0+1)∧(∀j,j<64→kW j=(aq A3 (ag (ae .i64 (ak .quo .i64 x0 4))) (ak .bR .u32 (ak .shl .u32 (A3 (ag (ae .i64 (ak .quo .i64 x0 4)))) 8) (ae .u32 (A2 (ag x0))))) j)∧bE ⟨[],[],[eH],[kW],[],[],[]⟩∧bL ⟨[],[],[eH],[kW],[],[],[]⟩<bL ⟨[],[],[x0],[A3],[],[],[]⟩)))))) (
 ∃(iT:Ext→Prop) (kB:Ext→Nat),(∃(x1:Int) (A4:Nat→Int),x1=16∧(∀j,j<64→A4 j=A3 j)∧iT ⟨[],[],[x1],[A4],[],[],[]⟩)∧
 ∀(x1:Int) (A4:Nat→Int),iT ⟨[],[],[x1],[A4],[],[],[]⟩→
 aR (x1<64) (
 bH (x1 - 2) ((
 ao (0≤(x1 - 2)) (
 ao ((x1 - 2)<64) (
 bH (x1 - 7) ((
 ao (0≤(x1 - 7)) (
 ao ((x1 - 7)<64) (
 bH (x1 - 15) ((
 ao (0≤(x1 - 15)) (
 ao ((x1 - 15)<64) (
 bH (x1 - 16) ((
 ao (0≤(x1 - 16)) (
 ao ((x1 - 16)<64) (
 ∀_ _:Nat,ao (0≤x1) (
 bH (x1+1) ((
 ∃(cm:Int) (oR:Nat→Int),cm=(x1+1)∧(∀j,j<64→oR j=(aq A4 (ag x1) (ae .u32 ((ae .u32 ((ae .u32 ((ak .ay .u32 (ak .ay .u32 (ak .bR .u32 (ak .shr .u32 (A4 (ag (x1 - 2))) 17) (ak .shl .u32 (A4 (ag (x1 - 2))) 15)) (ak .bR .u32 (ak .shr .u32 (A4 (ag (x1 - 2))) 19) (ak .shl .u32 (A4 (ag (x1 - 2))) 13))) (ak .shr .u32 (A4 (ag (x1 - 2))) 10))+(A4 (ag (x1 - 7)))))+(ak .ay .u32 (ak .ay .u32 (ak .bR .u32 (ak .shr .u32 (A4 (ag (x1 - 15))) 7) (ak .shl .u32 (A4 (ag (x1 - 15))) 25)) (ak .bR .u32 (ak .shr .u32 (A4 (ag (x1 - 15))) 18) (ak .shl .u32 (A4 (ag (x1 - 15))) 14))) (ak .shr .u32 (A4 (ag (x1 - 15))) 3))))+(A4 (ag (x1 - 16)))))) j)∧iT ⟨[],[],[cm],[oR],[],[],[]⟩∧kB ⟨[],[],[cm],[oR],[],[],[]⟩<kB ⟨[],[],[x1],[A4],[],[],[]⟩)))))))))))))))))))) (
 ∀_:Nat,∃(kX:Ext→Prop) (oS:Ext→Nat),(∃x2 x3 x4 x5 x6 x7 x8 x9 dS:Int,dS=0∧x2=(A0 0)∧x3=(A0 1)∧x4=(A0 2)∧x5=(A0 3)∧x6=(A0 4)∧x7=(A0 5)∧x8=(A0 6)∧x9=(A0 7)∧kX ⟨[],[],[x2,x3,x4,x5,x6,x7,x8,x9,dS],[],[],[],[]⟩)∧
 ∀x2 x3 x4 x5 x6 x7 x8 x9 dS:Int,kX ⟨[],[],[x2,x3,x4,x5,x6,x7,x8,x9,dS],[],[],[],[]⟩→
 aR (dS<64) (
 ao (0≤dS) (
 ∀_ _:Nat,bH (dS+1) ((
 ∃cf dt dc qq wT KW KX KY vK:Int,vK=(dS+1)∧cf=(ae .u32 ((ae .u32 ((ae .u32 ((ae .u32 ((ae .u32 (x9+(ak .ay .u32 (ak .ay .u32 (ak .bR .u32 (ak .shr .u32 x6 6) (ak .shl .u32 x6 26)) (ak .bR .u32 (ak .shr .u32 x6 11) (ak .shl .u32 x6 21))) (ak .bR .u32 (ak .shr .u32 x6 25) (ak .shl .u32 x6 7)))))+(ak .ay .u32 (ak .aP .u32 x6 x7) (ak .aP .u32 (ak .ay .u32 4294967295 x6) x8))))+(A1 (ag dS))))+(A4 (ag dS))))+(ae .u32 ((ak .ay .u32 (ak .ay .u32 (ak .bR .u32 (ak .shr .u32 x2 2) (ak .shl .u32 x2 30)) (ak .bR .u32 (ak .shr .u32 x2 13) (ak .shl .u32 x2 19))) (ak .bR .u32 (ak .shr .u32 x2 22) (ak .shl .u32 x2 10)))+(ak .ay .u32 (ak .ay .u32 (ak .aP .u32 x2 x3) (ak .aP .u32 x2 x4)) (ak .aP .u32 x3 x4))))))∧dt=x2∧dc=x3∧qq=x4∧wT=(ae .u32 (x5+(ae .u32 ((ae .u32 ((ae .u32 ((ae .u32 (x9+(ak .ay .u32 (ak .ay .u32 (ak .bR .u32 (ak .shr .u32 x6 6) (ak .shl .u32 x6 26)) (ak .bR .u32 (ak .shr .u32 x6 11) (ak .shl .u32 x6 21))) (ak .bR .u32 (ak .shr .u32 x6 25) (ak .shl .u32 x6 7)))))+(ak .ay .u32 (ak .aP .u32 x6 x7) (ak .aP .u32 (ak .ay .u32 4294967295 x6) x8))))+(A1 (ag dS))))+(A4 (ag dS))))))∧KW=x6∧KX=x7∧KY=x8∧kX ⟨[],[],[cf,dt,dc,qq,wT,KW,KX,KY,vK],[],[],[],[]⟩∧oS ⟨[],[],[cf,dt,dc,qq,wT,KW,KX,KY,vK],[],[],[],[]⟩<oS ⟨[],[],[x2,x3,x4,x5,x6,x7,x8,x9,dS],[],[],[],[]⟩)))) (
 ∃(ef:Ext→Prop) (gp:Ext→Nat),(∃(dQ:Int) (A5 A6:Nat→Int),dQ=0∧(∀j,j<8→A5 j=A0 j)∧(∀j,j<8→A6 j=(aq (aq (aq (aq (aq (aq (aq (aq (fun _=>0) 0 x2) 1 x3) 2 x4) 3 x5) 4 x6) 5 x7) 6 x8) 7 x9) j)∧ef ⟨[],[],[dQ],[A5,A6],[],[],[]⟩)∧
 ∀(dQ:Int) (A5 A6:Nat→Int),ef ⟨[],[],[dQ],[A5,A6],[],[],[]⟩→
 aR (dQ<8) (
 ao (0≤dQ) (
 bH (dQ+1) ((
 ∃(oE:Int) (qX wR:Nat→Int),oE=(dQ+1)∧(∀j,j<8→qX j=(aq A5 (ag dQ) (ae .u32 ((A5 (ag dQ))+(A6 (ag dQ))))) j)∧(∀j,j<8→wR j=A6 j)∧ef ⟨[],[],[oE],[qX,wR],[],[],[]⟩∧gp ⟨[],[],[oE],[qX,wR],[],[],[]⟩<gp ⟨[],[],[dQ],[A5,A6],[],[],[]⟩)))) (
 ar (.tuple #[]) [ax b0 true ([v0.v,v1.v,.int .i64 4,.int .i64 2,.int .i64 13,.int .i64 22,.int .i64 6,.int .i64 11,.int .i64 25,.int .i64 7,.int .i64 18,.int .i64 3,.int .i64 17,.int .i64 19,.int .i64 10]),aE true 225 1 v0.v 8 (aQ 8 [aO .u32 1 A5]),aE true 225 1 v1.v 64 (aQ 64 [aO .u32 1 A1])]))))
theorem Lw(ar:PT)(A0 A1 A2:Nat→Int)(v0 v1 v2:V1)(b0:Nat)(h:oW ar A0 A1 A2 v0 v1 v2 b0):aw ae0 151 [.pointer (some ⟨b0,0,none⟩),v2.v] [ax b0 true ([v0.v,v1.v,.int .i64 4,.int .i64 2,.int .i64 13,.int .i64 22,.int .i64 6,.int .i64 11,.int .i64 25,.int .i64 7,.int .i64 18,.int .i64 3,.int .i64 17,.int .i64 19,.int .i64 10]),aE true 225 1 v0.v 8 (aQ 8 [aO .u32 1 A0]),aE true 225 1 v1.v 64 (aQ 64 [aO .u32 1 A1]),bn false v2 64 A2] ar:=
 Rv (C:=Fm.cx) [.ptr 0 0,.vv 2] [.row 0 true [.vv 0,.vv 1,.int .i64 (.lit 4),.int .i64 (.lit 2),.int .i64 (.lit 13),.int .i64 (.lit 22),.int .i64 (.lit 6),.int .i64 (.lit 11),.int .i64 (.lit 25),.int .i64 (.lit 7),.int .i64 (.lit 18),.int .i64 (.lit 3),.int .i64 (.lit 17),.int .i64 (.lit 19),.int .i64 (.lit 10)],.bC true 0 225 1 (.lit 8) [⟨.int .u32,1,.aL 0⟩],.bC true 1 225 1 (.lit 64) [⟨.int .u32,1,.aL 1⟩],.bC false 2 5 1 (.lit 64) [⟨.int .u8,1,.aL 2⟩]] ⟨1,3,0,3,0,0,0⟩ ⟨[],[A0,A1,A2],[],[b0],[v0,v1,v2],[],[],[]⟩ 3 Tryz.func151 (by kernel_rfl) h
def zX(ar:PT):Prop:=
 ∀(b0 b1:Nat) (_:V1) (b2:Nat) (_:V1) (b3:Nat) (_:V1) (b4:Nat) (_:V1) (b5:Nat) (_:V1) (b6:Nat) (_:V1) (b7:Nat) (_:V1) (b8:Nat) (v7:V1) (b9 Pa:Nat) (_:V1) (Xn:Nat) (_:V1) (Rw:Nat) (_:V1) (Pb:Nat) (_:V1) (KZ:Nat) (_:V1) (K1:Nat) (_:V1) (CW:Nat) (_:V1) (Rx:Nat) (_:V1) (K2:Nat) (_:V1) (CH:Nat) (_:V1) (yX:Nat) (_:V1) (OG:Nat) (_:V1) (b22:Nat) (_:V1) (b23:Nat) (_:V1) (b24:Nat) (_:V1) (b25:Nat) (_:V1) (b26:Nat) (_:V1) (b27:Nat) (_:V1) (b28:Nat) (_:V1) (b29:Nat) (_:V1) (b30:Nat) (_:V1) (b31:Nat) (_:V1) (b32:Nat) (_:V1) (b33:Nat) (_:V1) (b34:Nat) (_:V1) (b35:Nat) (_:V1) (b36:Nat) (_:V1) (b37:Nat) (_:V1) (b38:Nat) (_:V1) (b39:Nat) (_:V1) (b40:Nat) (_:V1) (b41:Nat) (_:V1) (b42:Nat) (_:V1) (b43:Nat) (_:V1) (b44:Nat) (_:V1) (b45:Nat) (_:V1) (b46:Nat) (_:V1) (b47:Nat) (_:V1) (b48:Nat) (_:V1) (b49:Nat) (_:V1) (b50:Nat) (_:V1) (b51:Nat) (_:V1) (b52:Nat) (_:V1) (b53:Nat) (_:V1) (b54:Nat) (_:V1) (U1:Nat) (_:V1) (U2:Nat) (_:V1) (b57:Nat) (_:V1) (b58:Nat) (_:V1) (b59:Nat) (_:V1) (b60:Nat) (_:V1) (b61:Nat) (_:V1) (b62:Nat) (_:V1) (b63:Nat) (_:V1) (b64:Nat) (_:V1) (b65:Nat) (_:V1) (b66:Nat) (_:V1) (Xo:Nat) (_:V1) (Xp:Nat) (_:V1) (b69:Nat) (_:V1) (b70:Nat) (_:V1) (b71:Nat) (_:V1) (b72:Nat) (_:V1) (b73:Nat) (v71:V1) (b74:Nat),ar (.pointer (some ⟨b74,0,none⟩)) [ax b0 true ([.int .u64 7640891576956012808,.int .u64 13503953896175478587,.int .u64 4354685564936845355,.int .u64 11912009170470909681,.int .u64 5840696475078001361,.int .u64 11170449401992604703,.int .u64 2270897969802886507,.int .u64 6620516959819538809]),ax b1 true ([.int .u32 1779033703]),aE true 225 1 v7.v 8 (aQ 8 [aO .u32 1 (aq (aq (aq (aq (aq (aq (aq (aq (fun _=>0) 0 1779033703) 1 3144134277) 2 1013904242) 3 2773480762) 4 1359893119) 5 2600822924) 6 528734635) 7 1541459225)]),ax b2 true ([.int .u32 3144134277]),ax b3 true ([.int .u32 1013904242]),ax b4 true ([.int .u32 2773480762]),ax b5 true ([.int .u32 1359893119]),ax b6 true ([.int .u32 2600822924]),ax b7 true ([.int .u32 528734635]),ax b8 true ([.int .u32 1541459225]),ax b9 true ([.int .u64 4794697086780616226,.int .u64 8158064640168781261,.int .u64 13096744586834688815,.int .u64 16840607885511220156,.int .u64 4131703408338449720,.int .u64 6480981068601479193,.int .u64 10538285296894168987,.int .u64 12329834152419229976,.int .u64 15566598209576043074,.int .u64 1334009975649890238,.int .u64 2608012711638119052,.int .u64 6128411473006802146,.int .u64 8268148722764581231,.int .u64 9286055187155687089,.int .u64 11230858885718282805,.int .u64 13951009754708518548,.int .u64 16472876342353939154,.int .u64 17275323862435702243,.int .u64 1135362057144423861,.int .u64 2597628984639134821,.int .u64 3308224258029322869,.int .u64 5365058923640841347,.int .u64 6679025012923562964,.int .u64 8573033837759648693,.int .u64 10970295158949994411,.int .u64 12119686244451234320,.int .u64 12683024718118986047,.int .u64 13788192230050041572,.int .u64 14330467153632333762,.int .u64 15395433587784984357,.int .u64 489312712824947311,.int .u64 1452737877330783856,.int .u64 2861767655752347644,.int .u64 3322285676063803686,.int .u64 5560940570517711597,.int .u64 5996557281743188959,.int .u64 7280758554555802590,.int .u64 8532644243296465576,.int .u64 9350256976987008742,.int .u64 10552545826968843579,.int .u64 11727347734174303076,.int .u64 12113106623233404929,.int .u64 14000437183269869457,.int .u64 14369950271660146224,.int .u64 15101387698204529176,.int .u64 15463397548674623760,.int .u64 17586052441742319658,.int .u64 1182934255886127544,.int .u64 1847814050463011016,.int .u64 2177327727835720531,.int .u64 2830643537854262169,.int .u64 3796741975233480872,.int .u64 4115178125766777443,.int .u64 5681478168544905931,.int .u64 6601373596472566643,.int .u64 7507060721942968483,.int .u64 8399075790359081724,.int .u64 8693463985226723168,.int .u64 9568029438360202098,.int .u64 10144078919501101548,.int .u64 10430055236837252648,.int .u64 11840083180663258601,.int .u64 13761210420658862357,.int .u64 14299343276471374635,.int .u64 14566680578165727644,.int .u64 15097957966210449927,.int .u64 16922976911328602910,.int .u64 17689382322260857208,.int .u64 500013540394364858,.int .u64 748580250866718886,.int .u64 1242879168328830382,.int .u64 1977374033974150939,.int .u64 2944078676154940804,.int .u64 3659926193048069267,.int .u64 4368137639120453308,.int .u64 4836135668995329356,.int .u64 5532061633213252278,.int .u64 6448918945643986474,.int .u64 6902733635092675308,.int .u64 7801388544844847127]),ax Pa true ([.int .u32 1116352408]),aE true 225 1 v71.v 64 (aQ 64 [aO .u32 1 (aq (aq (aq (aq (aq (aq (aq (aq (aq (aq (aq (aq (aq (aq (aq (aq (aq (aq (aq (aq (aq (aq (aq (aq (aq (aq (aq (aq (aq (aq (aq (aq (aq (aq (aq (aq (aq (aq (aq (aq (aq (aq (aq (aq (aq (aq (aq (aq (aq (aq (aq (aq (aq (aq (aq (aq (aq (aq (aq (aq (aq (aq (aq (aq (fun _=>0) 0 1116352408) 1 1899447441) 2 3049323471) 3 3921009573) 4 961987163) 5 1508970993) 6 2453635748) 7 2870763221) 8 3624381080) 9 310598401) 10 607225278) 11 1426881987) 12 1925078388) 13 2162078206) 14 2614888103) 15 3248222580) 16 3835390401) 17 4022224774) 18 264347078) 19 604807628) 20 770255983) 21 1249150122) 22 1555081692) 23 1996064986) 24 2554220882) 25 2821834349) 26 2952996808) 27 3210313671) 28 3336571891) 29 3584528711) 30 113926993) 31 338241895) 32 666307205) 33 773529912) 34 1294757372) 35 1396182291) 36 1695183700) 37 1986661051) 38 2177026350) 39 2456956037) 40 2730485921) 41 2820302411) 42 3259730800) 43 3345764771) 44 3516065817) 45 3600352804) 46 4094571909) 47 275423344) 48 430227734) 49 506948616) 50 659060556) 51 883997877) 52 958139571) 53 1322822218) 54 1537002063) 55 1747873779) 56 1955562222) 57 2024104815) 58 2227730452) 59 2361852424) 60 2428436474) 61 2756734187) 62 3204031479) 63 3329325298)]),ax Xn true ([.int .u32 1899447441]),ax Rw true ([.int .u32 3049323471]),ax Pb true ([.int .u32 3921009573]),ax KZ true ([.int .u32 961987163]),ax K1 true ([.int .u32 1508970993]),ax CW true ([.int .u32 2453635748]),ax Rx true ([.int .u32 2870763221]),ax K2 true ([.int .u32 3624381080]),ax CH true ([.int .u32 310598401]),ax yX true ([.int .u32 607225278]),ax OG true ([.int .u32 1426881987]),ax b22 true ([.int .u32 1925078388]),ax b23 true ([.int .u32 2162078206]),ax b24 true ([.int .u32 2614888103]),ax b25 true ([.int .u32 3248222580]),ax b26 true ([.int .u32 3835390401]),ax b27 true ([.int .u32 4022224774]),ax b28 true ([.int .u32 264347078]),ax b29 true ([.int .u32 604807628]),ax b30 true ([.int .u32 770255983]),ax b31 true ([.int .u32 1249150122]),ax b32 true ([.int .u32 1555081692]),ax b33 true ([.int .u32 1996064986]),ax b34 true ([.int .u32 2554220882]),ax b35 true ([.int .u32 2821834349]),ax b36 true ([.int .u32 2952996808]),ax b37 true ([.int .u32 3210313671]),ax b38 true ([.int .u32 3336571891]),ax b39 true ([.int .u32 3584528711]),ax b40 true ([.int .u32 113926993]),ax b41 true ([.int .u32 338241895]),ax b42 true ([.int .u32 666307205]),ax b43 true ([.int .u32 773529912]),ax b44 true ([.int .u32 1294757372]),ax b45 true ([.int .u32 1396182291]),ax b46 true ([.int .u32 1695183700]),ax b47 true ([.int .u32 1986661051]),ax b48 true ([.int .u32 2177026350]),ax b49 true ([.int .u32 2456956037]),ax b50 true ([.int .u32 2730485921]),ax b51 true ([.int .u32 2820302411]),ax b52 true ([.int .u32 3259730800]),ax b53 true ([.int .u32 3345764771]),ax b54 true ([.int .u32 3516065817]),ax U1 true ([.int .u32 3600352804]),ax U2 true ([.int .u32 4094571909]),ax b57 true ([.int .u32 275423344]),ax b58 true ([.int .u32 430227734]),ax b59 true ([.int .u32 506948616]),ax b60 true ([.int .u32 659060556]),ax b61 true ([.int .u32 883997877]),ax b62 true ([.int .u32 958139571]),ax b63 true ([.int .u32 1322822218]),ax b64 true ([.int .u32 1537002063]),ax b65 true ([.int .u32 1747873779]),ax b66 true ([.int .u32 1955562222]),ax Xo true ([.int .u32 2024104815]),ax Xp true ([.int .u32 2227730452]),ax b69 true ([.int .u32 2361852424]),ax b70 true ([.int .u32 2428436474]),ax b71 true ([.int .u32 2756734187]),ax b72 true ([.int .u32 3204031479]),ax b73 true ([.int .u32 3329325298]),ax b74 true ([v7.v,v71.v,.int .i64 4,.int .i64 2,.int .i64 13,.int .i64 22,.int .i64 6,.int .i64 11,.int .i64 25,.int .i64 7,.int .i64 18,.int .i64 3,.int .i64 17,.int .i64 19,.int .i64 10])]
theorem Jj(ar:PT)(h:zX ar):aw ae0 138 [] [] ar:=
 Ls (C:=Fm.cx) [] [] ⟨0,0,0,0,0,0,0⟩ ⟨[],[],[],[],[],[],[],[]⟩ Tryz.func138 (by kernel_rfl) h
def zY(ar:PT)(x0 x1:Int)(A0 A1 A2 A3:Nat→Int)(v0 v1 v2 v3:V1)(b0 b1:Nat):Prop:=
 ao (0≤x0) (
 gV x0 (
 ∀v4:V1,∃(bE:Ext→Prop) (bL:Ext→Nat),(∃(v5:V1) (x2:Int) (A4 A5:Nat→Int),v5=v4∧(∀j,j<8→A5 j=A0 j)∧v5=v4∧x2=x0∧(∀j,j<(ag x2)→A4 j=A2 j)∧bE ⟨[],[v5],[x2],[A4,A5],[],[],[]⟩)∧
 ∀(v5:V1) (x2:Int) (A4 A5:Nat→Int),bE ⟨[],[v5],[x2],[A4,A5],[],[],[]⟩→
 ao (0≤x2) (
 aR (64≤x2) (
 Cl 151 [.pointer (some ⟨b0,0,none⟩),(aD 1 v5.v 0 64 none)] [ax b0 true ([v0.v,v1.v,.int .i64 4,.int .i64 2,.int .i64 13,.int .i64 22,.int .i64 6,.int .i64 11,.int .i64 25,.int .i64 7,.int .i64 18,.int .i64 3,.int .i64 17,.int .i64 19,.int .i64 10]),aE true 225 1 v0.v 8 (aQ 8 [aO .u32 1 A5]),aE true 225 1 v1.v 64 (aQ 64 [aO .u32 1 A1]),bo v5 x2 A4] fun x hs _=> ∃A6:(Nat→Int),x= .tuple #[]∧hs=[ax b0 true ([v0.v,v1.v,.int .i64 4,.int .i64 2,.int .i64 13,.int .i64 22,.int .i64 6,.int .i64 11,.int .i64 25,.int .i64 7,.int .i64 18,.int .i64 3,.int .i64 17,.int .i64 19,.int .i64 10]),aE true 225 1 v0.v 8 (aQ 8 [aO .u32 1 A6]),aE true 225 1 v1.v 64 (aQ 64 [aO .u32 1 A1]),bo v5 x2 A4]∧
 ao (64≤x2) (
 ao (0≤(x2 - 64)) (
 ∀v6:V1,∃(Pc:V1) (cf:Int) (oR qX:Nat→Int),Pc=v6∧(∀j,j<8→qX j=A6 j)∧Pc=v6∧cf=(x2 - 64)∧(∀j,j<(ag cf)→oR j=(aA A4 64) j)∧bE ⟨[],[Pc],[cf],[oR,qX],[],[],[]⟩∧bL ⟨[],[Pc],[cf],[oR,qX],[],[],[]⟩<bL ⟨[],[v5],[x2],[A4,A5],[],[],[]⟩))) (
 ao (0≤x1) (
 gV (x2+x1) (
 ∀v6:V1,∃(iT:Ext→Prop) (kB:Ext→Nat),(∃(v7:V1) (x3:Int) (A6 A7:Nat→Int),v7=v6∧(∀j,j<8→A7 j=A5 j)∧v7=v6∧x3=(x2+x1)∧(∀j,j<(ag x3)→A6 j=(aI A4 (ag x2) (ag x1) A3) j)∧iT ⟨[],[v7],[x3],[A6,A7],[],[],[]⟩)∧
 ∀(v7:V1) (x3:Int) (A6 A7:Nat→Int),iT ⟨[],[v7],[x3],[A6,A7],[],[],[]⟩→
 ao (0≤x3) (
 aR (64≤x3) (
 Cl 151 [.pointer (some ⟨b0,0,none⟩),(aD 1 v7.v 0 64 none)] [ax b0 true ([v0.v,v1.v,.int .i64 4,.int .i64 2,.int .i64 13,.int .i64 22,.int .i64 6,.int .i64 11,.int .i64 25,.int .i64 7,.int .i64 18,.int .i64 3,.int .i64 17,.int .i64 19,.int .i64 10]),aE true 225 1 v0.v 8 (aQ 8 [aO .u32 1 A7]),aE true 225 1 v1.v 64 (aQ 64 [aO .u32 1 A1]),bo v7 x3 A6] fun x hs _=> ∃A8:(Nat→Int),x= .tuple #[]∧hs=[ax b0 true ([v0.v,v1.v,.int .i64 4,.int .i64 2,.int .i64 13,.int .i64 22,.int .i64 6,.int .i64 11,.int .i64 25,.int .i64 7,.int .i64 18,.int .i64 3,.int .i64 17,.int .i64 19,.int .i64 10]),aE true 225 1 v0.v 8 (aQ 8 [aO .u32 1 A8]),aE true 225 1 v1.v 64 (aQ 64 [aO .u32 1 A1]),bo v7 x3 A6]∧
 ao (64≤x3) (
 ao (0≤(x3 - 64)) (
 ∀v8:V1,∃(Xq:V1) (dt:Int) (wR Sw:Nat→Int),Xq=v8∧(∀j,j<8→Sw j=A8 j)∧Xq=v8∧dt=(x3 - 64)∧(∀j,j<(ag dt)→wR j=(aA A6 64) j)∧iT ⟨[],[Xq],[dt],[wR,Sw],[],[],[]⟩∧kB ⟨[],[Xq],[dt],[wR,Sw],[],[],[]⟩<kB ⟨[],[v7],[x3],[A6,A7],[],[],[]⟩))) (
 ∀b2:Nat,gV (x3+1) (
 ∀v8:V1,∃(kX:Ext→Prop) (oS:Ext→Nat),(∃(v9:V1) (x4:Int) (A8:Nat→Int),v9=v8∧v9=v8∧x4=(x3+1)∧(∀j,j<(ag x4)→A8 j=(aI A6 (ag x3) 1 (aq (fun _=>0) 0 128)) j)∧kX ⟨[],[v9],[x4],[A8],[],[],[]⟩)∧
 ∀(v9:V1) (x4:Int) (A8:Nat→Int),kX ⟨[],[v9],[x4],[A8],[],[],[]⟩→
 ao (0≤x4) (
 bH (x4+8) ((
 aR (¬((ak .rem .i64 (x4+8) 64)=0)) (
 ∀_:Nat,gV ((x4+1)*1) (
 ∀v10:V1,∃(Hp:V1) (dc:Int) (X8:Nat→Int),Hp=v10∧Hp=v10∧dc=(x4+1)∧(∀j,j<(ag dc)→X8 j=(aq A8 (ag x4) 0) j)∧kX ⟨[],[Hp],[dc],[X8],[],[],[]⟩∧oS ⟨[],[Hp],[dc],[X8],[],[],[]⟩<oS ⟨[],[v9],[x4],[A8],[],[],[]⟩)) (
 ∀v10:V1,gV (x4+8) (
 ∀v11:V1,∃(ef:Ext→Prop) (gp:Ext→Nat),(∃(oL:V1) (x5:Int) (A9 gH:Nat→Int),oL=v11∧(∀j,j<8→gH j=A7 j)∧oL=v11∧x5=(x4+8)∧(∀j,j<(ag x5)→A9 j=(aI A8 (ag x4) 8 (aq (aq (aq (aq (aq (aq (aq (aq (fun _=>0) 7 (ae .u8 (ak .shr .u64 (ak .shl .u64 (ae .u64 ((ae .u64 (ae .u64 x0))+(ae .u64 x1))) 3) 0))) 6 (ae .u8 (ak .shr .u64 (ak .shl .u64 (ae .u64 ((ae .u64 (ae .u64 x0))+(ae .u64 x1))) 3) 8))) 5 (ae .u8 (ak .shr .u64 (ak .shl .u64 (ae .u64 ((ae .u64 (ae .u64 x0))+(ae .u64 x1))) 3) 16))) 4 (ae .u8 (ak .shr .u64 (ak .shl .u64 (ae .u64 ((ae .u64 (ae .u64 x0))+(ae .u64 x1))) 3) 24))) 3 (ae .u8 (ak .shr .u64 (ak .shl .u64 (ae .u64 ((ae .u64 (ae .u64 x0))+(ae .u64 x1))) 3) 32))) 2 (ae .u8 (ak .shr .u64 (ak .shl .u64 (ae .u64 ((ae .u64 (ae .u64 x0))+(ae .u64 x1))) 3) 40))) 1 (ae .u8 (ak .shr .u64 (ak .shl .u64 (ae .u64 ((ae .u64 (ae .u64 x0))+(ae .u64 x1))) 3) 48))) 0 (ae .u8 (ak .shr .u64 (ak .shl .u64 (ae .u64 ((ae .u64 (ae .u64 x0))+(ae .u64 x1))) 3) 56)))) j)∧ef ⟨[],[oL],[x5],[A9,gH],[],[],[]⟩)∧
 ∀(oL:V1) (x5:Int) (A9 gH:Nat→Int),ef ⟨[],[oL],[x5],[A9,gH],[],[],[]⟩→
 ao (0≤x5) (
 aR (0<x5) (
 ao (64≤x5) (
 Cl 151 [.pointer (some ⟨b0,0,none⟩),(aD 1 oL.v 0 64 none)] [ax b0 true ([v0.v,v1.v,.int .i64 4,.int .i64 2,.int .i64 13,.int .i64 22,.int .i64 6,.int .i64 11,.int .i64 25,.int .i64 7,.int .i64 18,.int .i64 3,.int .i64 17,.int .i64 19,.int .i64 10]),aE true 225 1 v0.v 8 (aQ 8 [aO .u32 1 gH]),aE true 225 1 v1.v 64 (aQ 64 [aO .u32 1 A1]),bo oL x5 A9] fun x hs _=> ∃oT:(Nat→Int),x= .tuple #[]∧hs=[ax b0 true ([v0.v,v1.v,.int .i64 4,.int .i64 2,.int .i64 13,.int .i64 22,.int .i64 6,.int .i64 11,.int .i64 25,.int .i64 7,.int .i64 18,.int .i64 3,.int .i64 17,.int .i64 19,.int .i64 10]),aE true 225 1 v0.v 8 (aQ 8 [aO .u32 1 oT]),aE true 225 1 v1.v 64 (aQ 64 [aO .u32 1 A1]),bo oL x5 A9]∧
 ao (64≤x5) (
 ao (0≤(x5 - 64)) (
 ∀qp:V1,∃(Pd:V1) (qq:Int) (Sx FM:Nat→Int),Pd=qp∧(∀j,j<8→FM j=oT j)∧Pd=qp∧qq=(x5 - 64)∧(∀j,j<(ag qq)→Sx j=(aA A9 64) j)∧ef ⟨[],[Pd],[qq],[Sx,FM],[],[],[]⟩∧gp ⟨[],[Pd],[qq],[Sx,FM],[],[],[]⟩<gp ⟨[],[oL],[x5],[A9,gH],[],[],[]⟩)))) (
 ∀(b3:Nat) (_:V1) (_:Nat) (_:V1) (_:Nat) (_:V1) (_:Nat) (_:V1) (_:Nat) (_:V1) (_:Nat) (_:V1) (_:Nat) (_:V1) (_:Nat) (_:V1) (_:Nat) (_:V1) (_:Nat) (_:V1) (_:Nat) (_:V1) (_:Nat) (_:V1) (_:Nat) (_:V1) (_:Nat) (_:V1) (_:Nat) (_:V1) (_:Nat) (_:V1) (_:Nat) (_:V1) (_:Nat) (_:V1) (_:Nat) (_:V1) (_:Nat) (_:V1) (_:Nat) (_:V1) (_:Nat) (_:V1) (_:Nat) (_:V1) (_:Nat) (_:V1) (_:Nat) (_:V1) (_:Nat) (_:V1) (_:Nat) (_:V1) (_:Nat) (_:V1) (_:Nat) (_:V1) (_:Nat) (_:V1) (_:Nat) (_:V1) (_:Nat) (v44:V1),ar (v44.v) [ax b0 true ([v0.v,v1.v,.int .i64 4,.int .i64 2,.int .i64 13,.int .i64 22,.int .i64 6,.int .i64 11,.int .i64 25,.int .i64 7,.int .i64 18,.int .i64 3,.int .i64 17,.int .i64 19,.int .i64 10]),aE true 225 1 v0.v 8 (aQ 8 [aO .u32 1 gH]),aE true 225 1 v1.v 64 (aQ 64 [aO .u32 1 A1]),ax b1 true ([v2.v,v3.v]),bi v2 x0 A2,bi v3 x1 A3,bo oL x5 A9,ax b2 true ([.int .u8 128]),bn true v10 8 (aq (aq (aq (aq (aq (aq (aq (aq (fun _=>0) 7 (ae .u8 (ak .shr .u64 (ak .shl .u64 (ae .u64 ((ae .u64 (ae .u64 x0))+(ae .u64 x1))) 3) 0))) 6 (ae .u8 (ak .shr .u64 (ak .shl .u64 (ae .u64 ((ae .u64 (ae .u64 x0))+(ae .u64 x1))) 3) 8))) 5 (ae .u8 (ak .shr .u64 (ak .shl .u64 (ae .u64 ((ae .u64 (ae .u64 x0))+(ae .u64 x1))) 3) 16))) 4 (ae .u8 (ak .shr .u64 (ak .shl .u64 (ae .u64 ((ae .u64 (ae .u64 x0))+(ae .u64 x1))) 3) 24))) 3 (ae .u8 (ak .shr .u64 (ak .shl .u64 (ae .u64 ((ae .u64 (ae .u64 x0))+(ae .u64 x1))) 3) 32))) 2 (ae .u8 (ak .shr .u64 (ak .shl .u64 (ae .u64 ((ae .u64 (ae .u64 x0))+(ae .u64 x1))) 3) 40))) 1 (ae .u8 (ak .shr .u64 (ak .shl .u64 (ae .u64 ((ae .u64 (ae .u64 x0))+(ae .u64 x1))) 3) 48))) 0 (ae .u8 (ak .shr .u64 (ak .shl .u64 (ae .u64 ((ae .u64 (ae .u64 x0))+(ae .u64 x1))) 3) 56))),ax b3 true ([.int .u8 (ae .u8 (ak .shr .u32 (gH 0) 24))]),bn true v44 32 (aq (aq (aq (aq (aq (aq (aq (aq (aq (aq (aq (aq (aq (aq (aq (aq (aq (aq (aq (aq (aq (aq (aq (aq (aq (aq (aq (aq (aq (aq (aq (aq (fun _=>0) 0 (ae .u8 (ak .shr .u32 (gH 0) 24))) 1 (ae .u8 (ak .shr .u32 (gH 0) 16))) 2 (ae .u8 (ak .shr .u32 (gH 0) 8))) 3 (ae .u8 (ak .shr .u32 (gH 0) 0))) 4 (ae .u8 (ak .shr .u32 (gH 1) 24))) 5 (ae .u8 (ak .shr .u32 (gH 1) 16))) 6 (ae .u8 (ak .shr .u32 (gH 1) 8))) 7 (ae .u8 (ak .shr .u32 (gH 1) 0))) 8 (ae .u8 (ak .shr .u32 (gH 2) 24))) 9 (ae .u8 (ak .shr .u32 (gH 2) 16))) 10 (ae .u8 (ak .shr .u32 (gH 2) 8))) 11 (ae .u8 (ak .shr .u32 (gH 2) 0))) 12 (ae .u8 (ak .shr .u32 (gH 3) 24))) 13 (ae .u8 (ak .shr .u32 (gH 3) 16))) 14 (ae .u8 (ak .shr .u32 (gH 3) 8))) 15 (ae .u8 (ak .shr .u32 (gH 3) 0))) 16 (ae .u8 (ak .shr .u32 (gH 4) 24))) 17 (ae .u8 (ak .shr .u32 (gH 4) 16))) 18 (ae .u8 (ak .shr .u32 (gH 4) 8))) 19 (ae .u8 (ak .shr .u32 (gH 4) 0))) 20 (ae .u8 (ak .shr .u32 (gH 5) 24))) 21 (ae .u8 (ak .shr .u32 (gH 5) 16))) 22 (ae .u8 (ak .shr .u32 (gH 5) 8))) 23 (ae .u8 (ak .shr .u32 (gH 5) 0))) 24 (ae .u8 (ak .shr .u32 (gH 6) 24))) 25 (ae .u8 (ak .shr .u32 (gH 6) 16))) 26 (ae .u8 (ak .shr .u32 (gH 6) 8))) 27 (ae .u8 (ak .shr .u32 (gH 6) 0))) 28 (ae .u8 (ak .shr .u32 (gH 7) 24))) 29 (ae .u8 (ak .shr .u32 (gH 7) 16))) 30 (ae .u8 (ak .shr .u32 (gH 7) 8))) 31 (ae .u8 (ak .shr .u32 (gH 7) 0)))]))))))))))))))))
theorem Jk(ar:PT)(x0 x1:Int)(A0 A1 A2 A3:Nat→Int)(v0 v1 v2 v3:V1)(b0 b1:Nat)(h:zY ar x0 x1 A0 A1 A2 A3 v0 v1 v2 v3 b0 b1):aw ae0 139 [.pointer (some ⟨b0,0,none⟩),.slice (some ⟨b1,0,none⟩) 2 2] [ax b0 true ([v0.v,v1.v,.int .i64 4,.int .i64 2,.int .i64 13,.int .i64 22,.int .i64 6,.int .i64 11,.int .i64 25,.int .i64 7,.int .i64 18,.int .i64 3,.int .i64 17,.int .i64 19,.int .i64 10]),aE true 225 1 v0.v 8 (aQ 8 [aO .u32 1 A0]),aE true 225 1 v1.v 64 (aQ 64 [aO .u32 1 A1]),ax b1 true ([v2.v,v3.v]),bi v2 x0 A2,bi v3 x1 A3] ar:=
 Rv (C:=Fm.cx) [.ptr 0 0,.sl 1 (.lit 0) 1 (.lit 2) (.lit 2)] [.row 0 true [.vv 0,.vv 1,.int .i64 (.lit 4),.int .i64 (.lit 2),.int .i64 (.lit 13),.int .i64 (.lit 22),.int .i64 (.lit 6),.int .i64 (.lit 11),.int .i64 (.lit 25),.int .i64 (.lit 7),.int .i64 (.lit 18),.int .i64 (.lit 3),.int .i64 (.lit 17),.int .i64 (.lit 19),.int .i64 (.lit 10)],.bC true 0 225 1 (.lit 8) [⟨.int .u32,1,.aL 0⟩],.bC true 1 225 1 (.lit 64) [⟨.int .u32,1,.aL 1⟩],.row 1 true [.vv 2,.vv 3],.bC false 2 5 1 (.var 0) [⟨.int .u8,1,.aL 2⟩],.bC false 3 5 1 (.var 1) [⟨.int .u8,1,.aL 3⟩]] ⟨2,4,2,4,0,0,0⟩ ⟨[x0,x1],[A0,A1,A2,A3],[],[b0,b1],[v0,v1,v2,v3],[],[],[]⟩ 11 Tryz.func139 (by kernel_rfl) h
def zZ(ar:PT)(x0 x1 x2 x3 x4 x5 x6:Int)(A0 A1 A2 A3 A4 A5 A6 A7 A8:Nat→Int)(v0 v1 v2 v3 v4 v5 v6 v7 v8 v9:V1)(b0:Nat):Prop:=
 ao (0≤x0) (
 gV x0 (
 ∀v10:V1,∃(bE:Ext→Prop) (bL:Ext→Nat),(∃(v11:V1) (x7:Int) (A9 gH:Nat→Int),v11=v10∧(∀j,j<8→gH j=A0 j)∧v11=v10∧x7=x0∧(∀j,j<(ag x7)→A9 j=A2 j)∧bE ⟨[],[v11],[x7],[A9,gH],[],[],[]⟩)∧
 ∀(v11:V1) (x7:Int) (A9 gH:Nat→Int),bE ⟨[],[v11],[x7],[A9,gH],[],[],[]⟩→
 ao (0≤x7) (
 aR (64≤x7) (
 Cl 151 [.pointer (some ⟨b0,0,none⟩),(aD 1 v11.v 0 64 none)] [ax b0 true ([v0.v,v1.v,.int .i64 4,.int .i64 2,.int .i64 13,.int .i64 22,.int .i64 6,.int .i64 11,.int .i64 25,.int .i64 7,.int .i64 18,.int .i64 3,.int .i64 17,.int .i64 19,.int .i64 10]),aE true 225 1 v0.v 8 (aQ 8 [aO .u32 1 gH]),aE true 225 1 v1.v 64 (aQ 64 [aO .u32 1 A1]),bo v11 x7 A9] fun x hs _=> ∃oT:(Nat→Int),x= .tuple #[]∧hs=[ax b0 true ([v0.v,v1.v,.int .i64 4,.int .i64 2,.int .i64 13,.int .i64 22,.int .i64 6,.int .i64 11,.int .i64 25,.int .i64 7,.int .i64 18,.int .i64 3,.int .i64 17,.int .i64 19,.int .i64 10]),aE true 225 1 v0.v 8 (aQ 8 [aO .u32 1 oT]),aE true 225 1 v1.v 64 (aQ 64 [aO .u32 1 A1]),bo v11 x7 A9]∧
 ao (64≤x7) (
 ao (0≤(x7 - 64)) (
 ∀oL:V1,∃(Pe:V1) (KW:Int) (Sx FM:Nat→Int),Pe=oL∧(∀j,j<8→FM j=oT j)∧Pe=oL∧KW=(x7 - 64)∧(∀j,j<(ag KW)→Sx j=(aA A9 64) j)∧bE ⟨[],[Pe],[KW],[Sx,FM],[],[],[]⟩∧bL ⟨[],[Pe],[KW],[Sx,FM],[],[],[]⟩<bL ⟨[],[v11],[x7],[A9,gH],[],[],[]⟩))) (
 ao (0≤x1) (
 gV (x7+x1) (
 ∀oL:V1,∃(iT:Ext→Prop) (kB:Ext→Nat),(∃(qp:V1) (x8:Int) (oT Fx:Nat→Int),qp=oL∧(∀j,j<8→Fx j=gH j)∧qp=oL∧x8=(x7+x1)∧(∀j,j<(ag x8)→oT j=(aI A9 (ag x7) (ag x1) A3) j)∧iT ⟨[],[qp],[x8],[oT,Fx],[],[],[]⟩)∧
 ∀(qp:V1) (x8:Int) (oT Fx:Nat→Int),iT ⟨[],[qp],[x8],[oT,Fx],[],[],[]⟩→
 ao (0≤x8) (
 aR (64≤x8) (
 Cl 151 [.pointer (some ⟨b0,0,none⟩),(aD 1 qp.v 0 64 none)] [ax b0 true ([v0.v,v1.v,.int .i64 4,.int .i64 2,.int .i64 13,.int .i64 22,.int .i64 6,.int .i64 11,.int .i64 25,.int .i64 7,.int .i64 18,.int .i64 3,.int .i64 17,.int .i64 19,.int .i64 10]),aE true 225 1 v0.v 8 (aQ 8 [aO .u32 1 Fx]),aE true 225 1 v1.v 64 (aQ 64 [aO .u32 1 A1]),bo qp x8 oT] fun x hs _=> ∃y6:(Nat→Int),x= .tuple #[]∧hs=[ax b0 true ([v0.v,v1.v,.int .i64 4,.int .i64 2,.int .i64 13,.int .i64 22,.int .i64 6,.int .i64 11,.int .i64 25,.int .i64 7,.int .i64 18,.int .i64 3,.int .i64 17,.int .i64 19,.int .i64 10]),aE true 225 1 v0.v 8 (aQ 8 [aO .u32 1 y6]),aE true 225 1 v1.v 64 (aQ 64 [aO .u32 1 A1]),bo qp x8 oT]∧
 ao (64≤x8) (
 ao (0≤(x8 - 64)) (
 ∀Sy:V1,∃(Pf:V1) (KX:Int) (Sz SA:Nat→Int),Pf=Sy∧(∀j,j<8→SA j=y6 j)∧Pf=Sy∧KX=(x8 - 64)∧(∀j,j<(ag KX)→Sz j=(aA oT 64) j)∧iT ⟨[],[Pf],[KX],[Sz,SA],[],[],[]⟩∧kB ⟨[],[Pf],[KX],[Sz,SA],[],[],[]⟩<kB ⟨[],[qp],[x8],[oT,Fx],[],[],[]⟩))) (
 ao (0≤x2) (
 gV (x8+x2) (
 ∀Sy:V1,∃(kX:Ext→Prop) (oS:Ext→Nat),(∃(K3:V1) (x9:Int) (y6 OH:Nat→Int),K3=Sy∧(∀j,j<8→OH j=Fx j)∧K3=Sy∧x9=(x8+x2)∧(∀j,j<(ag x9)→y6 j=(aI oT (ag x8) (ag x2) A4) j)∧kX ⟨[],[K3],[x9],[y6,OH],[],[],[]⟩)∧
 ∀(K3:V1) (x9:Int) (y6 OH:Nat→Int),kX ⟨[],[K3],[x9],[y6,OH],[],[],[]⟩→
 ao (0≤x9) (
 aR (64≤x9) (
 Cl 151 [.pointer (some ⟨b0,0,none⟩),(aD 1 K3.v 0 64 none)] [ax b0 true ([v0.v,v1.v,.int .i64 4,.int .i64 2,.int .i64 13,.int .i64 22,.int .i64 6,.int .i64 11,.int .i64 25,.int .i64 7,.int .i64 18,.int .i64 3,.int .i64 17,.int .i64 19,.int .i64 10]),aE true 225 1 v0.v 8 (aQ 8 [aO .u32 1 OH]),aE true 225 1 v1.v 64 (aQ 64 [aO .u32 1 A1]),bo K3 x9 y6] fun x hs _=> ∃K4:(Nat→Int),x= .tuple #[]∧hs=[ax b0 true ([v0.v,v1.v,.int .i64 4,.int .i64 2,.int .i64 13,.int .i64 22,.int .i64 6,.int .i64 11,.int .i64 25,.int .i64 7,.int .i64 18,.int .i64 3,.int .i64 17,.int .i64 19,.int .i64 10]),aE true 225 1 v0.v 8 (aQ 8 [aO .u32 1 K4]),aE true 225 1 v1.v 64 (aQ 64 [aO .u32 1 A1]),bo K3 x9 y6]∧
 ao (64≤x9) (
 ao (0≤(x9 - 64)) (
 ∀tC:V1,∃(Pg:V1) (KY:Int) (SB SC:Nat→Int),Pg=tC∧(∀j,j<8→SC j=K4 j)∧Pg=tC∧KY=(x9 - 64)∧(∀j,j<(ag KY)→SB j=(aA y6 64) j)∧kX ⟨[],[Pg],[KY],[SB,SC],[],[],[]⟩∧oS ⟨[],[Pg],[KY],[SB,SC],[],[],[]⟩<oS ⟨[],[K3],[x9],[y6,OH],[],[],[]⟩))) (
 ao (0≤x3) (
 gV (x9+x3) (
 ∀tC:V1,∃(ef:Ext→Prop) (gp:Ext→Nat),(∃(rQ:V1) (dS:Int) (K4 SD:Nat→Int),rQ=tC∧(∀j,j<8→SD j=OH j)∧rQ=tC∧dS=(x9+x3)∧(∀j,j<(ag dS)→K4 j=(aI y6 (ag x9) (ag x3) A5) j)∧ef ⟨[],[rQ],[dS],[K4,SD],[],[],[]⟩)∧
 ∀(rQ:V1) (dS:Int) (K4 SD:Nat→Int),ef ⟨[],[rQ],[dS],[K4,SD],[],[],[]⟩→
 ao (0≤dS) (
 aR (64≤dS) (
 Cl 151 [.pointer (some ⟨b0,0,none⟩),(aD 1 rQ.v 0 64 none)] [ax b0 true ([v0.v,v1.v,.int .i64 4,.int .i64 2,.int .i64 13,.int .i64 22,.int .i64 6,.int .i64 11,.int .i64 25,.int .i64 7,.int .i64 18,.int .i64 3,.int .i64 17,.int .i64 19,.int .i64 10]),aE true 225 1 v0.v 8 (aQ 8 [aO .u32 1 SD]),aE true 225 1 v1.v 64 (aQ 64 [aO .u32 1 A1]),bo rQ dS K4] fun x hs _=> ∃K5:(Nat→Int),x= .tuple #[]∧hs=[ax b0 true ([v0.v,v1.v,.int .i64 4,.int .i64 2,.int .i64 13,.int .i64 22,.int .i64 6,.int .i64 11,.int .i64 25,.int .i64 7,.int .i64 18,.int .i64 3,.int .i64 17,.int .i64 19,.int .i64 10]),aE true 225 1 v0.v 8 (aQ 8 [aO .u32 1 K5]),aE true 225 1 v1.v 64 (aQ 64 [aO .u32 1 A1]),bo rQ dS K4]∧
 ao (64≤dS) (
 ao (0≤(dS - 64)) (
 ∀wS:V1,∃(Ph:V1) (vK:Int) (SE SF:Nat→Int),Ph=wS∧(∀j,j<8→SF j=K5 j)∧Ph=wS∧vK=(dS - 64)∧(∀j,j<(ag vK)→SE j=(aA K4 64) j)∧ef ⟨[],[Ph],[vK],[SE,SF],[],[],[]⟩∧gp ⟨[],[Ph],[vK],[SE,SF],[],[],[]⟩<gp ⟨[],[rQ],[dS],[K4,SD],[],[],[]⟩))) (
 ao (0≤x4) (
 gV (dS+x4) (
 ∀wS:V1,∃(gq:Ext→Prop) (jM:Ext→Nat),(∃(Pj:V1) (dQ:Int) (K5 SG:Nat→Int),Pj=wS∧(∀j,j<8→SG j=SD j)∧Pj=wS∧dQ=(dS+x4)∧(∀j,j<(ag dQ)→K5 j=(aI K4 (ag dS) (ag x4) A6) j)∧gq ⟨[],[Pj],[dQ],[K5,SG],[],[],[]⟩)∧
 ∀(Pj:V1) (dQ:Int) (K5 SG:Nat→Int),gq ⟨[],[Pj],[dQ],[K5,SG],[],[],[]⟩→
 ao (0≤dQ) (
 aR (64≤dQ) (
 Cl 151 [.pointer (some ⟨b0,0,none⟩),(aD 1 Pj.v 0 64 none)] [ax b0 true ([v0.v,v1.v,.int .i64 4,.int .i64 2,.int .i64 13,.int .i64 22,.int .i64 6,.int .i64 11,.int .i64 25,.int .i64 7,.int .i64 18,.int .i64 3,.int .i64 17,.int .i64 19,.int .i64 10]),aE true 225 1 v0.v 8 (aQ 8 [aO .u32 1 SG]),aE true 225 1 v1.v 64 (aQ 64 [aO .u32 1 A1]),bo Pj dQ K5] fun x hs _=> ∃K6:(Nat→Int),x= .tuple #[]∧hs=[ax b0 true ([v0.v,v1.v,.int .i64 4,.int .i64 2,.int .i64 13,.int .i64 22,.int .i64 6,.int .i64 11,.int .i64 25,.int .i64 7,.int .i64 18,.int .i64 3,.int .i64 17,.int .i64 19,.int .i64 10]),aE true 225 1 v0.v 8 (aQ 8 [aO .u32 1 K6]),aE true 225 1 v1.v 64 (aQ 64 [aO .u32 1 A1]),bo Pj dQ K5]∧
 ao (64≤dQ) (
 ao (0≤(dQ - 64)) (
 ∀v20:V1,∃(Pk:V1) (oE:Int) (SH SI:Nat→Int),Pk=v20∧(∀j,j<8→SI j=K6 j)∧Pk=v20∧oE=(dQ - 64)∧(∀j,j<(ag oE)→SH j=(aA K5 64) j)∧gq ⟨[],[Pk],[oE],[SH,SI],[],[],[]⟩∧jM ⟨[],[Pk],[oE],[SH,SI],[],[],[]⟩<jM ⟨[],[Pj],[dQ],[K5,SG],[],[],[]⟩))) (
 ao (0≤x5) (
 gV (dQ+x5) (
 ∀v20:V1,∃(Lx:Ext→Prop) (Ry:Ext→Nat),(∃(Pl:V1) (dK:Int) (K6 SJ:Nat→Int),Pl=v20∧(∀j,j<8→SJ j=SG j)∧Pl=v20∧dK=(dQ+x5)∧(∀j,j<(ag dK)→K6 j=(aI K5 (ag dQ) (ag x5) A7) j)∧Lx ⟨[],[Pl],[dK],[K6,SJ],[],[],[]⟩)∧
 ∀(Pl:V1) (dK:Int) (K6 SJ:Nat→Int),Lx ⟨[],[Pl],[dK],[K6,SJ],[],[],[]⟩→
 ao (0≤dK) (
 aR (64≤dK) (
 Cl 151 [.pointer (some ⟨b0,0,none⟩),(aD 1 Pl.v 0 64 none)] [ax b0 true ([v0.v,v1.v,.int .i64 4,.int .i64 2,.int .i64 13,.int .i64 22,.int .i64 6,.int .i64 11,.int .i64 25,.int .i64 7,.int .i64 18,.int .i64 3,.int .i64 17,.int .i64 19,.int .i64 10]),aE true 225 1 v0.v 8 (aQ 8 [aO .u32 1 SJ]),aE true 225 1 v1.v 64 (aQ 64 [aO .u32 1 A1]),bo Pl dK K6] fun x hs _=> ∃K7:(Nat→Int),x= .tuple #[]∧hs=[ax b0 true ([v0.v,v1.v,.int .i64 4,.int .i64 2,.int .i64 13,.int .i64 22,.int .i64 6,.int .i64 11,.int .i64 25,.int .i64 7,.int .i64 18,.int .i64 3,.int .i64 17,.int .i64 19,.int .i64 10]),aE true 225 1 v0.v 8 (aQ 8 [aO .u32 1 K7]),aE true 225 1 v1.v 64 (aQ 64 [aO .u32 1 A1]),bo Pl dK K6]∧
 ao (64≤dK) (
 ao (0≤(dK - 64)) (
 ∀U3:V1,∃(Pm:V1) (qY:Int) (SK SL:Nat→Int),Pm=U3∧(∀j,j<8→SL j=K7 j)∧Pm=U3∧qY=(dK - 64)∧(∀j,j<(ag qY)→SK j=(aA K6 64) j)∧Lx ⟨[],[Pm],[qY],[SK,SL],[],[],[]⟩∧Ry ⟨[],[Pm],[qY],[SK,SL],[],[],[]⟩<Ry ⟨[],[Pl],[dK],[K6,SJ],[],[],[]⟩))) (
 ao (0≤x6) (
 gV (dK+x6) (
 ∀U3:V1,∃(Ly:Ext→Prop) (Rz:Ext→Nat),(∃(Fy:V1) (cT:Int) (K7 SM:Nat→Int),Fy=U3∧(∀j,j<8→SM j=SJ j)∧Fy=U3∧cT=(dK+x6)∧(∀j,j<(ag cT)→K7 j=(aI K6 (ag dK) (ag x6) A8) j)∧Ly ⟨[],[Fy],[cT],[K7,SM],[],[],[]⟩)∧
 ∀(Fy:V1) (cT:Int) (K7 SM:Nat→Int),Ly ⟨[],[Fy],[cT],[K7,SM],[],[],[]⟩→
 ao (0≤cT) (
 aR (64≤cT) (
 Cl 151 [.pointer (some ⟨b0,0,none⟩),(aD 1 Fy.v 0 64 none)] [ax b0 true ([v0.v,v1.v,.int .i64 4,.int .i64 2,.int .i64 13,.int .i64 22,.int .i64 6,.int .i64 11,.int .i64 25,.int .i64 7,.int .i64 18,.int .i64 3,.int .i64 17,.int .i64 19,.int .i64 10]),aE true 225 1 v0.v 8 (aQ 8 [aO .u32 1 SM]),aE true 225 1 v1.v 64 (aQ 64 [aO .u32 1 A1]),bo Fy cT K7] fun x hs _=> ∃OI:(Nat→Int),x= .tuple #[]∧hs=[ax b0 true ([v0.v,v1.v,.int .i64 4,.int .i64 2,.int .i64 13,.int .i64 22,.int .i64 6,.int .i64 11,.int .i64 25,.int .i64 7,.int .i64 18,.int .i64 3,.int .i64 17,.int .i64 19,.int .i64 10]),aE true 225 1 v0.v 8 (aQ 8 [aO .u32 1 OI]),aE true 225 1 v1.v 64 (aQ 64 [aO .u32 1 A1]),bo Fy cT K7]∧
 ao (64≤cT) (
 ao (0≤(cT - 64)) (
 ∀FN:V1,∃(Pn:V1) (CX:Int) (SN SO:Nat→Int),Pn=FN∧(∀j,j<8→SO j=OI j)∧Pn=FN∧CX=(cT - 64)∧(∀j,j<(ag CX)→SN j=(aA K7 64) j)∧Ly ⟨[],[Pn],[CX],[SN,SO],[],[],[]⟩∧Rz ⟨[],[Pn],[CX],[SN,SO],[],[],[]⟩<Rz ⟨[],[Fy],[cT],[K7,SM],[],[],[]⟩))) (
 ∀b1:Nat,gV (cT+1) (
 ∀FN:V1,∃(Lz:Ext→Prop) (RA:Ext→Nat),(∃(UC:V1) (oF:Int) (OI:Nat→Int),UC=FN∧UC=FN∧oF=(cT+1)∧(∀j,j<(ag oF)→OI j=(aI K7 (ag cT) 1 (aq (fun _=>0) 0 128)) j)∧Lz ⟨[],[UC],[oF],[OI],[],[],[]⟩)∧
 ∀(UC:V1) (oF:Int) (OI:Nat→Int),Lz ⟨[],[UC],[oF],[OI],[],[],[]⟩→
 ao (0≤oF) (
 bH (oF+8) ((
 aR (¬((ak .rem .i64 (oF+8) 64)=0)) (
 ∀_:Nat,gV ((oF+1)*1) (
 ∀Xr:V1,∃(Po:V1) (Pp:Int) (SP:Nat→Int),Po=Xr∧Po=Xr∧Pp=(oF+1)∧(∀j,j<(ag Pp)→SP j=(aq OI (ag oF) 0) j)∧Lz ⟨[],[Po],[Pp],[SP],[],[],[]⟩∧RA ⟨[],[Po],[Pp],[SP],[],[],[]⟩<RA ⟨[],[UC],[oF],[OI],[],[],[]⟩)) (
 ∀Xr:V1,gV (oF+8) (
 ∀v27:V1,∃(LA:Ext→Prop) (RB:Ext→Nat),(∃(OJ:V1) (kO:Int) (Pq nB:Nat→Int),OJ=v27∧(∀j,j<8→nB j=SM j)∧OJ=v27∧kO=(oF+8)∧(∀j,j<(ag kO)→Pq j=(aI OI (ag oF) 8 (aq (aq (aq (aq (aq (aq (aq (aq (fun _=>0) 7 (ae .u8 (ak .shr .u64 (ak .shl .u64 (ae .u64 ((ae .u64 ((ae .u64 ((ae .u64 ((ae .u64 ((ae .u64 ((ae .u64 (ae .u64 x0))+(ae .u64 x1)))+(ae .u64 x2)))+(ae .u64 x3)))+(ae .u64 x4)))+(ae .u64 x5)))+(ae .u64 x6))) 3) 0))) 6 (ae .u8 (ak .shr .u64 (ak .shl .u64 (ae .u64 ((ae .u64 ((ae .u64 ((ae .u64 ((ae .u64 ((ae .u64 ((ae .u64 (ae .u64 x0))+(ae .u64 x1)))+(ae .u64 x2)))+(ae .u64 x3)))+(ae .u64 x4)))+(ae .u64 x5)))+(ae .u64 x6))) 3) 8))) 5 (ae .u8 (ak .shr .u64 (ak .shl .u64 (ae .u64 ((ae .u64 ((ae .u64 ((ae .u64 ((ae .u64 ((ae .u64 ((ae .u64 (ae .u64 x0))+(ae .u64 x1)))+(ae .u64 x2)))+(ae .u64 x3)))+(ae .u64 x4)))+(ae .u64 x5)))+(ae .u64 x6))) 3) 16))) 4 (ae .u8 (ak .shr .u64 (ak .shl .u64 (ae .u64 ((ae .u64 ((ae .u64 ((ae .u64 ((ae .u64 ((ae .u64 ((ae .u64 (ae .u64 x0))+(ae .u64 x1)))+(ae .u64 x2)))+(ae .u64 x3)))+(ae .u64 x4)))+(ae .u64 x5)))+(ae .u64 x6))) 3) 24))) 3 (ae .u8 (ak .shr .u64 (ak .shl .u64 (ae .u64 ((ae .u64 ((ae .u64 ((ae .u64 ((ae .u64 ((ae .u64 ((ae .u64 (ae .u64 x0))+(ae .u64 x1)))+(ae .u64 x2)))+(ae .u64 x3)))+(ae .u64 x4)))+(ae .u64 x5)))+(ae .u64 x6))) 3) 32))) 2 (ae .u8 (ak .shr .u64 (ak .shl .u64 (ae .u64 ((ae .u64 ((ae .u64 ((ae .u64 ((ae .u64 ((ae .u64 ((ae .u64 (ae .u64 x0))+(ae .u64 x1)))+(ae .u64 x2)))+(ae .u64 x3)))+(ae .u64 x4)))+(ae .u64 x5)))+(ae .u64 x6))) 3) 40))) 1 (ae .u8 (ak .shr .u64 (ak .shl .u64 (ae .u64 ((ae .u64 ((ae .u64 ((ae .u64 ((ae .u64 ((ae .u64 ((ae .u64 (ae .u64 x0))+(ae .u64 x1)))+(ae .u64 x2)))+(ae .u64 x3)))+(ae .u64 x4)))+(ae .u64 x5)))+(ae .u64 x6))) 3) 48))) 0 (ae .u8 (ak .shr .u64 (ak .shl .u64 (ae .u64 ((ae .u64 ((ae .u64 ((ae .u64 ((ae .u64 ((ae .u64 ((ae .u64 (ae .u64 x0))+(ae .u64 x1)))+(ae .u64 x2)))+(ae .u64 x3)))+(ae .u64 x4)))+(ae .u64 x5)))+(ae .u64 x6))) 3) 56)))) j)∧LA ⟨[],[OJ],[kO],[Pq,nB],[],[],[]⟩)∧
 ∀(OJ:V1) (kO:Int) (Pq nB:Nat→Int),LA ⟨[],[OJ],[kO],[Pq,nB],[],[],[]⟩→
 ao (0≤kO) (
 aR (0<kO) (
 ao (64≤kO) (
 Cl 151 [.pointer (some ⟨b0,0,none⟩),(aD 1 OJ.v 0 64 none)] [ax b0 true ([v0.v,v1.v,.int .i64 4,.int .i64 2,.int .i64 13,.int .i64 22,.int .i64 6,.int .i64 11,.int .i64 25,.int .i64 7,.int .i64 18,.int .i64 3,.int .i64 17,.int .i64 19,.int .i64 10]),aE true 225 1 v0.v 8 (aQ 8 [aO .u32 1 nB]),aE true 225 1 v1.v 64 (aQ 64 [aO .u32 1 A1]),bo OJ kO Pq] fun x hs _=> ∃A26:(Nat→Int),x= .tuple #[]∧hs=[ax b0 true ([v0.v,v1.v,.int .i64 4,.int .i64 2,.int .i64 13,.int .i64 22,.int .i64 6,.int .i64 11,.int .i64 25,.int .i64 7,.int .i64 18,.int .i64 3,.int .i64 17,.int .i64 19,.int .i64 10]),aE true 225 1 v0.v 8 (aQ 8 [aO .u32 1 A26]),aE true 225 1 v1.v 64 (aQ 64 [aO .u32 1 A1]),bo OJ kO Pq]∧
 ao (64≤kO) (
 ao (0≤(kO - 64)) (
 ∀X9:V1,∃(Pr:V1) (Ps:Int) (SQ SR:Nat→Int),Pr=X9∧(∀j,j<8→SR j=A26 j)∧Pr=X9∧Ps=(kO - 64)∧(∀j,j<(ag Ps)→SQ j=(aA Pq 64) j)∧LA ⟨[],[Pr],[Ps],[SQ,SR],[],[],[]⟩∧RB ⟨[],[Pr],[Ps],[SQ,SR],[],[],[]⟩<RB ⟨[],[OJ],[kO],[Pq,nB],[],[],[]⟩)))) (
 ∀(b2:Nat) (_:V1) (_:Nat) (_:V1) (_:Nat) (_:V1) (_:Nat) (_:V1) (_:Nat) (_:V1) (_:Nat) (_:V1) (_:Nat) (_:V1) (_:Nat) (_:V1) (_:Nat) (_:V1) (_:Nat) (_:V1) (_:Nat) (_:V1) (_:Nat) (_:V1) (_:Nat) (_:V1) (_:Nat) (_:V1) (_:Nat) (_:V1) (_:Nat) (_:V1) (_:Nat) (_:V1) (_:Nat) (_:V1) (_:Nat) (_:V1) (_:Nat) (_:V1) (_:Nat) (_:V1) (_:Nat) (_:V1) (_:Nat) (_:V1) (_:Nat) (_:V1) (_:Nat) (_:V1) (_:Nat) (_:V1) (_:Nat) (_:V1) (_:Nat) (_:V1) (_:Nat) (_:V1) (_:Nat) (_:V1) (_:Nat) (_:V1) (_:Nat) (v60:V1),ar (v60.v) [ax b0 true ([v0.v,v1.v,.int .i64 4,.int .i64 2,.int .i64 13,.int .i64 22,.int .i64 6,.int .i64 11,.int .i64 25,.int .i64 7,.int .i64 18,.int .i64 3,.int .i64 17,.int .i64 19,.int .i64 10]),aE true 225 1 v0.v 8 (aQ 8 [aO .u32 1 nB]),aE true 225 1 v1.v 64 (aQ 64 [aO .u32 1 A1]),aE true 24 1 v2.v 7 [v3.v,v4.v,v5.v,v6.v,v7.v,v8.v,v9.v],bi v3 x0 A2,bi v4 x1 A3,bi v5 x2 A4,bi v6 x3 A5,bi v7 x4 A6,bi v8 x5 A7,bi v9 x6 A8,bo OJ kO Pq,ax b1 true ([.int .u8 128]),bn true Xr 8 (aq (aq (aq (aq (aq (aq (aq (aq (fun _=>0) 7 (ae .u8 (ak .shr .u64 (ak .shl .u64 (ae .u64 ((ae .u64 ((ae .u64 ((ae .u64 ((ae .u64 ((ae .u64 ((ae .u64 (ae .u64 x0))+(ae .u64 x1)))+(ae .u64 x2)))+(ae .u64 x3)))+(ae .u64 x4)))+(ae .u64 x5)))+(ae .u64 x6))) 3) 0))) 6 (ae .u8 (ak .shr .u64 (ak .shl .u64 (ae .u64 ((ae .u64 ((ae .u64 ((ae .u64 ((ae .u64 ((ae .u64 ((ae .u64 (ae .u64 x0))+(ae .u64 x1)))+(ae .u64 x2)))+(ae .u64 x3)))+(ae .u64 x4)))+(ae .u64 x5)))+(ae .u64 x6))) 3) 8))) 5 (ae .u8 (ak .shr .u64 (ak .shl .u64 (ae .u64 ((ae .u64 ((ae .u64 ((ae .u64 ((ae .u64 ((ae .u64 ((ae .u64 (ae .u64 x0))+(ae .u64 x1)))+(ae .u64 x2)))+(ae .u64 x3)))+(ae .u64 x4)))+(ae .u64 x5)))+(ae .u64 x6))) 3) 16))) 4 (ae .u8 (ak .shr .u64 (ak .shl .u64 (ae .u64 ((ae .u64 ((ae .u64 ((ae .u64 ((ae .u64 ((ae .u64 ((ae .u64 (ae .u64 x0))+(ae .u64 x1)))+(ae .u64 x2)))+(ae .u64 x3)))+(ae .u64 x4)))+(ae .u64 x5)))+(ae .u64 x6))) 3) 24))) 3 (ae .u8 (ak .shr .u64 (ak .shl .u64 (ae .u64 ((ae .u64 ((ae .u64 ((ae .u64 ((ae .u64 ((ae .u64 ((ae .u64 (ae .u64 x0))+(ae .u64 x1)))+(ae .u64 x2)))+(ae .u64 x3)))+(ae .u64 x4)))+(ae .u64 x5)))+(ae .u64 x6))) 3) 32))) 2 (ae .u8 (ak .shr .u64 (ak .shl .u64 (ae .u64 ((ae .u64 ((ae .u64 ((ae .u64 ((ae .u64 ((ae .u64 ((ae .u64 (ae .u64 x0))+(ae .u64 x1)))+(ae .u64 x2)))+(ae .u64 x3)))+(ae .u64 x4)))+(ae .u64 x5)))+(ae .u64 x6))) 3) 40))) 1 (ae .u8 (ak .shr .u64 (ak .shl .u64 (ae .u64 ((ae .u64 ((ae .u64 ((ae .u64 ((ae .u64 ((ae .u64 ((ae .u64 (ae .u64 x0))+(ae .u64 x1)))+(ae .u64 x2)))+(ae .u64 x3)))+(ae .u64 x4)))+(ae .u64 x5)))+(ae .u64 x6))) 3) 48))) 0 (ae .u8 (ak .shr .u64 (ak .shl .u64 (ae .u64 ((ae .u64 ((ae .u64 ((ae .u64 ((ae .u64 ((ae .u64 ((ae .u64 (ae .u64 x0))+(ae .u64 x1)))+(ae .u64 x2)))+(ae .u64 x3)))+(ae .u64 x4)))+(ae .u64 x5)))+(ae .u64 x6))) 3) 56))),ax b2 true ([.int .u8 (ae .u8 (ak .shr .u32 (nB 0) 24))]),bn true v60 32 (aq (aq (aq (aq (aq (aq (aq (aq (aq (aq (aq (aq (aq (aq (aq (aq (aq (aq (aq (aq (aq (aq (aq (aq (aq (aq (aq (aq (aq (aq (aq (aq (fun _=>0) 0 (ae .u8 (ak .shr .u32 (nB 0) 24))) 1 (ae .u8 (ak .shr .u32 (nB 0) 16))) 2 (ae .u8 (ak .shr .u32 (nB 0) 8))) 3 (ae .u8 (ak .shr .u32 (nB 0) 0))) 4 (ae .u8 (ak .shr .u32 (nB 1) 24))) 5 (ae .u8 (ak .shr .u32 (nB 1) 16))) 6 (ae .u8 (ak .shr .u32 (nB 1) 8))) 7 (ae .u8 (ak .shr .u32 (nB 1) 0))) 8 (ae .u8 (ak .shr .u32 (nB 2) 24))) 9 (ae .u8 (ak .shr .u32 (nB 2) 16))) 10 (ae .u8 (ak .shr .u32 (nB 2) 8))) 11 (ae .u8 (ak .shr .u32 (nB 2) 0))) 12 (ae .u8 (ak .shr .u32 (nB 3) 24))) 13 (ae .u8 (ak .shr .u32 (nB 3) 16))) 14 (ae .u8 (ak .shr .u32 (nB 3) 8))) 15 (ae .u8 (ak .shr .u32 (nB 3) 0))) 16 (ae .u8 (ak .shr .u32 (nB 4) 24))) 17 (ae .u8 (ak .shr .u32 (nB 4) 16))) 18 (ae .u8 (ak .shr .u32 (nB 4) 8))) 19 (ae .u8 (ak .shr .u32 (nB 4) 0))) 20 (ae .u8 (ak .shr .u32 (nB 5) 24))) 21 (ae .u8 (ak .shr .u32 (nB 5) 16))) 22 (ae .u8 (ak .shr .u32 (nB 5) 8))) 23 (ae .u8 (ak .shr .u32 (nB 5) 0))) 24 (ae .u8 (ak .shr .u32 (nB 6) 24))) 25 (ae .u8 (ak .shr .u32 (nB 6) 16))) 26 (ae .u8 (ak .shr .u32 (nB 6) 8))) 27 (ae .u8 (ak .shr .u32 (nB 6) 0))) 28 (ae .u8 (ak .shr .u32 (nB 7) 24))) 29 (ae .u8 (ak .shr .u32 (nB 7) 16))) 30 (ae .u8 (ak .shr .u32 (nB 7) 8))) 31 (ae .u8 (ak .shr .u32 (nB 7) 0)))]))))))))))))))))))))))))))))))))))))
theorem Jl(ar:PT)(x0 x1 x2 x3 x4 x5 x6:Int)(A0 A1 A2 A3 A4 A5 A6 A7 A8:Nat→Int)(v0 v1 v2 v3 v4 v5 v6 v7 v8 v9:V1)(b0:Nat)(h:zZ ar x0 x1 x2 x3 x4 x5 x6 A0 A1 A2 A3 A4 A5 A6 A7 A8 v0 v1 v2 v3 v4 v5 v6 v7 v8 v9 b0):aw ae0 139 [.pointer (some ⟨b0,0,none⟩),v2.v] [ax b0 true ([v0.v,v1.v,.int .i64 4,.int .i64 2,.int .i64 13,.int .i64 22,.int .i64 6,.int .i64 11,.int .i64 25,.int .i64 7,.int .i64 18,.int .i64 3,.int .i64 17,.int .i64 19,.int .i64 10]),aE true 225 1 v0.v 8 (aQ 8 [aO .u32 1 A0]),aE true 225 1 v1.v 64 (aQ 64 [aO .u32 1 A1]),aE true 24 1 v2.v 7 [v3.v,v4.v,v5.v,v6.v,v7.v,v8.v,v9.v],bi v3 x0 A2,bi v4 x1 A3,bi v5 x2 A4,bi v6 x3 A5,bi v7 x4 A6,bi v8 x5 A7,bi v9 x6 A8] ar:=
 Rv (C:=Fm.cx) [.ptr 0 0,.vv 2] [.row 0 true [.vv 0,.vv 1,.int .i64 (.lit 4),.int .i64 (.lit 2),.int .i64 (.lit 13),.int .i64 (.lit 22),.int .i64 (.lit 6),.int .i64 (.lit 11),.int .i64 (.lit 25),.int .i64 (.lit 7),.int .i64 (.lit 18),.int .i64 (.lit 3),.int .i64 (.lit 17),.int .i64 (.lit 19),.int .i64 (.lit 10)],.bC true 0 225 1 (.lit 8) [⟨.int .u32,1,.aL 0⟩],.bC true 1 225 1 (.lit 64) [⟨.int .u32,1,.aL 1⟩],.bC true 2 24 1 (.lit 7) [{ck:=CK.Ba [3,4,5,6,7,8,9],w:=1,a:= .lit 0}],.bC false 3 5 1 (.var 0) [⟨.int .u8,1,.aL 2⟩],.bC false 4 5 1 (.var 1) [⟨.int .u8,1,.aL 3⟩],.bC false 5 5 1 (.var 2) [⟨.int .u8,1,.aL 4⟩],.bC false 6 5 1 (.var 3) [⟨.int .u8,1,.aL 5⟩],.bC false 7 5 1 (.var 4) [⟨.int .u8,1,.aL 6⟩],.bC false 8 5 1 (.var 5) [⟨.int .u8,1,.aL 7⟩],.bC false 9 5 1 (.var 6) [⟨.int .u8,1,.aL 8⟩]] ⟨1,10,7,9,0,0,0⟩ ⟨[x0,x1,x2,x3,x4,x5,x6],[A0,A1,A2,A3,A4,A5,A6,A7,A8],[],[b0],[v0,v1,v2,v3,v4,v5,v6,v7,v8,v9],[],[],[]⟩ 16 Tryz.func139 (by kernel_rfl) h
def CY(ar:PT)(x0 x1:Int)(A0 A1:Nat→Int)(v0 v1:V1)(b0:Nat):Prop:=
 ∀b1:Nat,Cl 138 [] [] fun x hs _=> ∃(b2:Nat) (v2 v3:V1) (A2 A3:Nat→Int),x= .pointer (some ⟨b2,0,none⟩)∧hs=[ax b2 true ([v2.v,v3.v,.int .i64 4,.int .i64 2,.int .i64 13,.int .i64 22,.int .i64 6,.int .i64 11,.int .i64 25,.int .i64 7,.int .i64 18,.int .i64 3,.int .i64 17,.int .i64 19,.int .i64 10]),aE true 225 1 v2.v 8 (aQ 8 [aO .u32 1 A2]),aE true 225 1 v3.v 64 (aQ 64 [aO .u32 1 A3])]∧
 Cl 139 [.pointer (some ⟨b2,0,none⟩),.slice (some ⟨b0,0,none⟩) 2 2] [ax b2 true ([v2.v,v3.v,.int .i64 4,.int .i64 2,.int .i64 13,.int .i64 22,.int .i64 6,.int .i64 11,.int .i64 25,.int .i64 7,.int .i64 18,.int .i64 3,.int .i64 17,.int .i64 19,.int .i64 10]),aE true 225 1 v2.v 8 (aQ 8 [aO .u32 1 A2]),aE true 225 1 v3.v 64 (aQ 64 [aO .u32 1 A3]),ax b0 true ([v0.v,v1.v]),bi v0 x0 A0,bi v1 x1 A1] fun x hs _=> ∃(v4:V1) (A4:Nat→Int),x=v4.v∧hs=[ax b0 true ([v0.v,v1.v]),bi v0 x0 A0,bi v1 x1 A1,bn true v4 32 A4]∧
 ar (.agg (aeU (al .u8 32 A4) ([])).toArray) [bn true v4 32 A4,HP.emp,HP.emp,ax b1 true (aeU (al .u8 32 A4) ([])),ax b0 true ([v0.v,v1.v]),bi v0 x0 A0,bi v1 x1 A1]
theorem LB(ar:PT)(x0 x1:Int)(A0 A1:Nat→Int)(v0 v1:V1)(b0:Nat)(h:CY ar x0 x1 A0 A1 v0 v1 b0):aw ae0 115 [.slice (some ⟨b0,0,none⟩) 2 2] [ax b0 true ([v0.v,v1.v]),bi v0 x0 A0,bi v1 x1 A1] ar:=
 Ls (C:=Fm.cx) [.sl 0 (.lit 0) 1 (.lit 2) (.lit 2)] [.row 0 true [.vv 0,.vv 1],.bC false 0 5 1 (.var 0) [⟨.int .u8,1,.aL 0⟩],.bC false 1 5 1 (.var 1) [⟨.int .u8,1,.aL 1⟩]] ⟨1,2,2,2,0,0,0⟩ ⟨[x0,x1],[A0,A1],[],[b0],[v0,v1],[],[],[]⟩ Tryz.func115 (by kernel_rfl) h
def CZ(ar:PT)(x0 x1 x2 x3 x4 x5 x6:Int)(A0 A1 A2 A3 A4 A5 A6:Nat→Int)(v0 v1 v2 v3 v4 v5 v6 v7:V1):Prop:=
 ∀b0:Nat,Cl 138 [] [] fun x hs _=> ∃(b1:Nat) (v8 v9:V1) (A7 A8:Nat→Int),x= .pointer (some ⟨b1,0,none⟩)∧hs=[ax b1 true ([v8.v,v9.v,.int .i64 4,.int .i64 2,.int .i64 13,.int .i64 22,.int .i64 6,.int .i64 11,.int .i64 25,.int .i64 7,.int .i64 18,.int .i64 3,.int .i64 17,.int .i64 19,.int .i64 10]),aE true 225 1 v8.v 8 (aQ 8 [aO .u32 1 A7]),aE true 225 1 v9.v 64 (aQ 64 [aO .u32 1 A8])]∧
 Cl 139 [.pointer (some ⟨b1,0,none⟩),v0.v] [ax b1 true ([v8.v,v9.v,.int .i64 4,.int .i64 2,.int .i64 13,.int .i64 22,.int .i64 6,.int .i64 11,.int .i64 25,.int .i64 7,.int .i64 18,.int .i64 3,.int .i64 17,.int .i64 19,.int .i64 10]),aE true 225 1 v8.v 8 (aQ 8 [aO .u32 1 A7]),aE true 225 1 v9.v 64 (aQ 64 [aO .u32 1 A8]),aE true 24 1 v0.v 7 [v1.v,v2.v,v3.v,v4.v,v5.v,v6.v,v7.v],bi v1 x0 A0,bi v2 x1 A1,bi v3 x2 A2,bi v4 x3 A3,bi v5 x4 A4,bi v6 x5 A5,bi v7 x6 A6] fun x hs _=> ∃(v10:V1) (A9:Nat→Int),x=v10.v∧hs=[aE true 24 1 v0.v 7 [v1.v,v2.v,v3.v,v4.v,v5.v,v6.v,v7.v],bi v1 x0 A0,bi v2 x1 A1,bi v3 x2 A2,bi v4 x3 A3,bi v5 x4 A4,bi v6 x5 A5,bi v7 x6 A6,bn true v10 32 A9]∧
 ar (.agg (aeU (al .u8 32 A9) ([])).toArray) [bi v3 x2 A2,bi v4 x3 A3,bi v5 x4 A4,bi v6 x5 A5,bi v7 x6 A6,bn true v10 32 A9,HP.emp,HP.emp,ax b0 true (aeU (al .u8 32 A9) ([])),aE true 24 1 v0.v 7 [v1.v,v2.v,v3.v,v4.v,v5.v,v6.v,v7.v],bi v1 x0 A0,bi v2 x1 A1]
theorem LD(ar:PT)(x0 x1 x2 x3 x4 x5 x6:Int)(A0 A1 A2 A3 A4 A5 A6:Nat→Int)(v0 v1 v2 v3 v4 v5 v6 v7:V1)(h:CZ ar x0 x1 x2 x3 x4 x5 x6 A0 A1 A2 A3 A4 A5 A6 v0 v1 v2 v3 v4 v5 v6 v7):aw ae0 115 [v0.v] [aE true 24 1 v0.v 7 [v1.v,v2.v,v3.v,v4.v,v5.v,v6.v,v7.v],bi v1 x0 A0,bi v2 x1 A1,bi v3 x2 A2,bi v4 x3 A3,bi v5 x4 A4,bi v6 x5 A5,bi v7 x6 A6] ar:=
 Ls (C:=Fm.cx) [.vv 0] [.bC true 0 24 1 (.lit 7) [{ck:=CK.Ba [1,2,3,4,5,6,7],w:=1,a:= .lit 0}],.bC false 1 5 1 (.var 0) [⟨.int .u8,1,.aL 0⟩],.bC false 2 5 1 (.var 1) [⟨.int .u8,1,.aL 1⟩],.bC false 3 5 1 (.var 2) [⟨.int .u8,1,.aL 2⟩],.bC false 4 5 1 (.var 3) [⟨.int .u8,1,.aL 3⟩],.bC false 5 5 1 (.var 4) [⟨.int .u8,1,.aL 4⟩],.bC false 6 5 1 (.var 5) [⟨.int .u8,1,.aL 5⟩],.bC false 7 5 1 (.var 6) [⟨.int .u8,1,.aL 6⟩]] ⟨0,8,7,7,0,0,0⟩ ⟨[x0,x1,x2,x3,x4,x5,x6],[A0,A1,A2,A3,A4,A5,A6],[],[],[v0,v1,v2,v3,v4,v5,v6,v7],[],[],[]⟩ Tryz.func115 (by kernel_rfl) h
def z7(ar:PT)(x0 x1:Int)(A0 A1:Nat→Int)(v0 v1:V1)(b0:Nat):Prop:=
 Cl 115 [.slice (some ⟨b0,0,none⟩) 2 2] [ax b0 true ([v0.v,v1.v]),bi v0 x0 A0,bi v1 x1 A1] fun x hs l=> ∃A2:(Nat→Int),x= .agg (aeU (al .u8 32 A2) ([])).toArray∧hs=l∧
 ∀b1:Nat,ar (.slice (some ⟨b1,0,none⟩) 32 32) [ax b0 true ([v0.v,v1.v]),bi v0 x0 A0,bi v1 x1 A1,ax b1 true (aeU (al .u8 32 A2) ([]))]
theorem Jm(ar:PT)(x0 x1:Int)(A0 A1:Nat→Int)(v0 v1:V1)(b0:Nat)(h:z7 ar x0 x1 A0 A1 v0 v1 b0):aw ae0 96 [.int .u8 1,.slice (some ⟨b0,0,none⟩) 2 2] [ax b0 true ([v0.v,v1.v]),bi v0 x0 A0,bi v1 x1 A1] ar:=
 Rv (C:=Fm.cx) [.int .u8 (.lit 1),.sl 0 (.lit 0) 1 (.lit 2) (.lit 2)] [.row 0 true [.vv 0,.vv 1],.bC false 0 5 1 (.var 0) [⟨.int .u8,1,.aL 0⟩],.bC false 1 5 1 (.var 1) [⟨.int .u8,1,.aL 1⟩]] ⟨1,2,2,2,0,0,0⟩ ⟨[x0,x1],[A0,A1],[],[b0],[v0,v1],[],[],[]⟩ 4 Tryz.func96 (by kernel_rfl) h
def z9(ar:PT)(x0 x1 x2 x3 x4 x5 x6:Int)(A0 A1 A2 A3 A4 A5 A6:Nat→Int)(v0 v1 v2 v3 v4 v5 v6 v7:V1):Prop:=
 Cl 115 [v0.v] [aE true 24 1 v0.v 7 [v1.v,v2.v,v3.v,v4.v,v5.v,v6.v,v7.v],bi v1 x0 A0,bi v2 x1 A1,bi v3 x2 A2,bi v4 x3 A3,bi v5 x4 A4,bi v6 x5 A5,bi v7 x6 A6] fun x hs l=> ∃A7:(Nat→Int),x= .agg (aeU (al .u8 32 A7) ([])).toArray∧hs=l∧
 ∀b0:Nat,ar (.slice (some ⟨b0,0,none⟩) 32 32) [aE true 24 1 v0.v 7 [v1.v,v2.v,v3.v,v4.v,v5.v,v6.v,v7.v],bi v1 x0 A0,bi v2 x1 A1,bi v3 x2 A2,bi v4 x3 A3,bi v5 x4 A4,bi v6 x5 A5,bi v7 x6 A6,ax b0 true (aeU (al .u8 32 A7) ([]))]
theorem Jn(ar:PT)(x0 x1 x2 x3 x4 x5 x6:Int)(A0 A1 A2 A3 A4 A5 A6:Nat→Int)(v0 v1 v2 v3 v4 v5 v6 v7:V1)(h:z9 ar x0 x1 x2 x3 x4 x5 x6 A0 A1 A2 A3 A4 A5 A6 v0 v1 v2 v3 v4 v5 v6 v7):aw ae0 96 [.int .u8 1,v0.v] [aE true 24 1 v0.v 7 [v1.v,v2.v,v3.v,v4.v,v5.v,v6.v,v7.v],bi v1 x0 A0,bi v2 x1 A1,bi v3 x2 A2,bi v4 x3 A3,bi v5 x4 A4,bi v6 x5 A5,bi v7 x6 A6] ar:=
 Rv (C:=Fm.cx) [.int .u8 (.lit 1),.vv 0] [.bC true 0 24 1 (.lit 7) [{ck:=CK.Ba [1,2,3,4,5,6,7],w:=1,a:= .lit 0}],.bC false 1 5 1 (.var 0) [⟨.int .u8,1,.aL 0⟩],.bC false 2 5 1 (.var 1) [⟨.int .u8,1,.aL 1⟩],.bC false 3 5 1 (.var 2) [⟨.int .u8,1,.aL 2⟩],.bC false 4 5 1 (.var 3) [⟨.int .u8,1,.aL 3⟩],.bC false 5 5 1 (.var 4) [⟨.int .u8,1,.aL 4⟩],.bC false 6 5 1 (.var 5) [⟨.int .u8,1,.aL 5⟩],.bC false 7 5 1 (.var 6) [⟨.int .u8,1,.aL 6⟩]] ⟨0,8,7,7,0,0,0⟩ ⟨[x0,x1,x2,x3,x4,x5,x6],[A0,A1,A2,A3,A4,A5,A6],[],[],[v0,v1,v2,v3,v4,v5,v6,v7],[],[],[]⟩ 9 Tryz.func96 (by kernel_rfl) h
def HC(ar:PT)(x0 x1 x2 x3 x4 x5:Int)(A0 A1 A2 A3 A4 A5 A6:Nat→Int)(v0 v1 v2 v3 v4 v5 v6:V1)(b0:Nat):Prop:=
 Cl 97 [.int .u8 1,v6.v,.int .u8 54] [bn false v6 32 A6] fun x hs l=> ∃(v7:V1) (x6:Int) (A7:Nat→Int),x=v7.v∧hs=l++[bo v7 x6 A7]∧
 ∀(_:Nat) (v8:V1),Cl 96 [.int .u8 1,v8.v] [aE true 24 1 v8.v 7 [v7.v,v0.v,v1.v,v2.v,v3.v,v4.v,v5.v],bo v7 x6 A7,bi v0 x0 A0,bi v1 x1 A1,bi v2 x2 A2,bi v3 x3 A3,bi v4 x4 A4,bi v5 x5 A5] fun x hs l=> ∃(v9:V1) (x7:Int) (A8:Nat→Int),x=v9.v∧hs=l++[bo v9 x7 A8]∧
 Cl 97 [.int .u8 1,v6.v,.int .u8 92] [bn false v6 32 A6] fun x hs l=> ∃(v10:V1) (x8:Int) (A9:Nat→Int),x=v10.v∧hs=l++[bo v10 x8 A9]∧
 ∀b2:Nat,Cl 96 [.int .u8 1,.slice (some ⟨b2,0,none⟩) 2 2] [ax b2 true ([v10.v,v9.v]),bo v10 x8 A9,bo v9 x7 A8] fun x hs l=> ∃(v11:V1) (x9:Int) (gH:Nat→Int),x=v11.v∧hs=l++[bo v11 x9 gH]∧
 ar (v11.v) [ax b0 true ([v0.v,v1.v,v2.v,v3.v,v4.v,v5.v]),bo v11 x9 gH]
theorem Pt(ar:PT)(x0 x1 x2 x3 x4 x5:Int)(A0 A1 A2 A3 A4 A5 A6:Nat→Int)(v0 v1 v2 v3 v4 v5 v6:V1)(b0:Nat)(h:HC ar x0 x1 x2 x3 x4 x5 A0 A1 A2 A3 A4 A5 A6 v0 v1 v2 v3 v4 v5 v6 b0):aw ae0 64 [.int .u8 1,v6.v,.slice (some ⟨b0,0,none⟩) 6 6] [ax b0 true ([v0.v,v1.v,v2.v,v3.v,v4.v,v5.v]),bi v0 x0 A0,bi v1 x1 A1,bi v2 x2 A2,bi v3 x3 A3,bi v4 x4 A4,bi v5 x5 A5,bn false v6 32 A6] ar:=
 mK (C:=Fm.cx) [.int .u8 (.lit 1),.vv 6,.sl 0 (.lit 0) 1 (.lit 6) (.lit 6)] [.row 0 true [.vv 0,.vv 1,.vv 2,.vv 3,.vv 4,.vv 5],.bC false 0 5 1 (.var 0) [⟨.int .u8,1,.aL 0⟩],.bC false 1 5 1 (.var 1) [⟨.int .u8,1,.aL 1⟩],.bC false 2 5 1 (.var 2) [⟨.int .u8,1,.aL 2⟩],.bC false 3 5 1 (.var 3) [⟨.int .u8,1,.aL 3⟩],.bC false 4 5 1 (.var 4) [⟨.int .u8,1,.aL 4⟩],.bC false 5 5 1 (.var 5) [⟨.int .u8,1,.aL 5⟩],.bC false 6 5 1 (.lit 32) [⟨.int .u8,1,.aL 6⟩]] ⟨1,7,6,7,0,0,0⟩ ⟨[x0,x1,x2,x3,x4,x5],[A0,A1,A2,A3,A4,A5,A6],[],[b0],[v0,v1,v2,v3,v4,v5,v6],[],[],[]⟩ 1 1 Tryz.func64 (by kernel_rfl) h
def z_(ar:PT)(A0:Nat→Int)(_:V1):Prop:=
 ∃post,FO ae0 143 [.int .i64 64] [] post∧
 ∀x hs,post x hs→∃(v1:V1) (x0:Int) (A1:Nat→Int),x=v1.v∧hs=[bo v1 x0 A1]∧
 ao (64≤x0) (
 ar ((aD 1 v1.v 0 64 (some 64))) [bo v1 x0 (aI (aI (aI (aI (aI (aI (aI A1 0 1 A0) 1 1 (aI A1 0 1 A0)) 2 2 (aI (aI A1 0 1 A0) 1 1 (aI A1 0 1 A0))) 4 4 (aI (aI (aI A1 0 1 A0) 1 1 (aI A1 0 1 A0)) 2 2 (aI (aI A1 0 1 A0) 1 1 (aI A1 0 1 A0)))) 8 8 (aI (aI (aI (aI A1 0 1 A0) 1 1 (aI A1 0 1 A0)) 2 2 (aI (aI A1 0 1 A0) 1 1 (aI A1 0 1 A0))) 4 4 (aI (aI (aI A1 0 1 A0) 1 1 (aI A1 0 1 A0)) 2 2 (aI (aI A1 0 1 A0) 1 1 (aI A1 0 1 A0))))) 16 16 (aI (aI (aI (aI (aI A1 0 1 A0) 1 1 (aI A1 0 1 A0)) 2 2 (aI (aI A1 0 1 A0) 1 1 (aI A1 0 1 A0))) 4 4 (aI (aI (aI A1 0 1 A0) 1 1 (aI A1 0 1 A0)) 2 2 (aI (aI A1 0 1 A0) 1 1 (aI A1 0 1 A0)))) 8 8 (aI (aI (aI (aI A1 0 1 A0) 1 1 (aI A1 0 1 A0)) 2 2 (aI (aI A1 0 1 A0) 1 1 (aI A1 0 1 A0))) 4 4 (aI (aI (aI A1 0 1 A0) 1 1 (aI A1 0 1 A0)) 2 2 (aI (aI A1 0 1 A0) 1 1 (aI A1 0 1 A0)))))) 32 32 (aI (aI (aI (aI (aI (aI A1 0 1 A0) 1 1 (aI A1 0 1 A0)) 2 2 (aI (aI A1 0 1 A0) 1 1 (aI A1 0 1 A0))) 4 4 (aI (aI (aI A1 0 1 A0) 1 1 (aI A1 0 1 A0)) 2 2 (aI (aI A1 0 1 A0) 1 1 (aI A1 0 1 A0)))) 8 8 (aI (aI (aI (aI A1 0 1 A0) 1 1 (aI A1 0 1 A0)) 2 2 (aI (aI A1 0 1 A0) 1 1 (aI A1 0 1 A0))) 4 4 (aI (aI (aI A1 0 1 A0) 1 1 (aI A1 0 1 A0)) 2 2 (aI (aI A1 0 1 A0) 1 1 (aI A1 0 1 A0))))) 16 16 (aI (aI (aI (aI (aI A1 0 1 A0) 1 1 (aI A1 0 1 A0)) 2 2 (aI (aI A1 0 1 A0) 1 1 (aI A1 0 1 A0))) 4 4 (aI (aI (aI A1 0 1 A0) 1 1 (aI A1 0 1 A0)) 2 2 (aI (aI A1 0 1 A0) 1 1 (aI A1 0 1 A0)))) 8 8 (aI (aI (aI (aI A1 0 1 A0) 1 1 (aI A1 0 1 A0)) 2 2 (aI (aI A1 0 1 A0) 1 1 (aI A1 0 1 A0))) 4 4 (aI (aI (aI A1 0 1 A0) 1 1 (aI A1 0 1 A0)) 2 2 (aI (aI A1 0 1 A0) 1 1 (aI A1 0 1 A0)))))))])
theorem Jo(ar:PT)(A0:Nat→Int)(v0:V1)(h:z_ ar A0 v0):aw ae0 118 [v0.v,.int .i64 64] [bn false v0 1 A0] ar:=
 mK (C:=Fm.cx) [.vv 0,.int .i64 (.lit 64)] [.bC false 0 5 1 (.lit 1) [⟨.int .u8,1,.aL 0⟩]] ⟨0,1,0,1,0,0,0⟩ ⟨[],[A0],[],[],[v0],[],[],[]⟩ 0 1 Tryz.func118 (by kernel_rfl) h
def wU(ar:PT)(x0:Int)(A0:Nat→Int)(_:V1):Prop:=
 ∀b0:Nat,Cl 118 [.slice (some ⟨b0,0,none⟩) 1 1,.int .i64 64] [ax b0 true ([.int .u8 x0])] fun x hs l=> ∃(v1:V1) (x1:Int) (A1:Nat→Int),x=v1.v∧hs=l++[bo v1 x1 A1]∧
 ∃(bE:Ext→Prop) (bL:Ext→Nat),(∃(x2:Int) (A2:Nat→Int),x2=0∧(∀j,j<(ag x1)→A2 j=A1 j)∧bE ⟨[],[],[x2],[A2],[],[],[]⟩)∧
 ∀(x2:Int) (A2:Nat→Int),bE ⟨[],[],[x2],[A2],[],[],[]⟩→
 aR (x2<32) (
 ao (0≤x2) (
 ao (x2<x1) (
 bH (x2+1) ((
 ∃(cf:Int) (dT:Nat→Int),cf=(x2+1)∧(∀j,j<(ag x1)→dT j=(aq A2 (ag x2) (ak .ay .u8 (A2 (ag x2)) (A0 (ag x2)))) j)∧bE ⟨[],[],[cf],[dT],[],[],[]⟩∧bL ⟨[],[],[cf],[dT],[],[],[]⟩<bL ⟨[],[],[x2],[A2],[],[],[]⟩))))) (
 ar (v1.v) [bo v1 x1 A2])
theorem FP(ar:PT)(x0:Int)(A0:Nat→Int)(v0:V1)(h:wU ar x0 A0 v0):aw ae0 97 [.int .u8 1,v0.v,.int .u8 x0] [bn false v0 32 A0] ar:=
 mK (C:=Fm.cx) [.int .u8 (.lit 1),.vv 0,.int .u8 (.var 0)] [.bC false 0 5 1 (.lit 32) [⟨.int .u8,1,.aL 0⟩]] ⟨0,1,1,1,0,0,0⟩ ⟨[x0],[A0],[],[],[v0],[],[],[]⟩ 0 1 Tryz.func97 (by kernel_rfl) h
def RC(ar:PT)(x0:Int):Prop:=
 ∀(b0:Nat) (_:V1) (_:Nat) (_:V1) (_:Nat) (_:V1) (_:Nat) (_:V1) (_:Nat) (_:V1) (_:Nat) (_:V1) (_:Nat) (_:V1) (_:Nat) (v7:V1),ar (v7.v) [ax b0 true ([.int .u8 (ae .u8 (ak .shr .i64 x0 56))]),bn true v7 8 (aq (aq (aq (aq (aq (aq (aq (aq (fun _=>0) 0 (ae .u8 (ak .shr .i64 x0 56))) 1 (ae .u8 (ak .shr .i64 x0 48))) 2 (ae .u8 (ak .shr .i64 x0 40))) 3 (ae .u8 (ak .shr .i64 x0 32))) 4 (ae .u8 (ak .shr .i64 x0 24))) 5 (ae .u8 (ak .shr .i64 x0 16))) 6 (ae .u8 (ak .shr .i64 x0 8))) 7 (ae .u8 (ak .shr .i64 x0 0)))]
theorem U4(ar:PT)(x0:Int)(h:RC ar x0):aw ae0 65 [.int .i64 x0] [] ar:=
 Rv (C:=Fm.cx) [.int .i64 (.var 0)] [] ⟨0,0,1,0,0,0,0⟩ ⟨[x0],[],[],[],[],[],[],[]⟩ 2 Tryz.func65 (by kernel_rfl) h
def wk(ar:PT)(x0 x1:Int)(A0 A1:Nat→Int)(_ _:V1):Prop:=
 ao (0≤x0) (
 ao (0≤x1) (
 aR (¬(x0=x1)) (
 ar (.bool false) []) (
 ∃(mN:Ext→Prop) (qs:Ext→Nat),(∃x2 x3:Int,x2=0∧x3=0∧mN ⟨[],[],[x2,x3],[],[],[],[]⟩)∧
 ∀x2 x3:Int,mN ⟨[],[],[x2,x3],[],[],[],[]⟩→
 aR (x2<x0) (
 ao (0≤x2) (
 ao (x2<x1) (
 bH (x2+1) ((
 ∃cf dt:Int,cf=(x2+1)∧dt=(ak .bR .u8 x3 (ak .ay .u8 (A0 (ag x2)) (A1 (ag x2))))∧mN ⟨[],[],[cf,dt],[],[],[],[]⟩∧qs ⟨[],[],[cf,dt],[],[],[],[]⟩<qs ⟨[],[],[x2,x3],[],[],[],[]⟩))))) (
 ar (.bool (x3==0)) []))))
theorem HD(ar:PT)(x0 x1:Int)(A0 A1:Nat→Int)(v0 v1:V1)(h:wk ar x0 x1 A0 A1 v0 v1):aw ae0 68 [v0.v,v1.v] [bi v0 x0 A0,bi v1 x1 A1] ar:=
 FJ (C:=Fm.cx) [.vv 0,.vv 1] [.bC false 0 5 1 (.var 0) [⟨.int .u8,1,.aL 0⟩],.bC false 1 5 1 (.var 1) [⟨.int .u8,1,.aL 1⟩]] ⟨0,2,2,2,0,0,0⟩ ⟨[x0,x1],[A0,A1],[],[],[v0,v1],[],[],[]⟩ Tryz.func68 (by kernel_rfl) h
def Aa(ar:PT)(x0:Int):Prop:=
 aR (x0<8) (
 ar (.slice none 0 0) []) (
 ∃(mN:Ext→Prop) (qs:Ext→Nat),(∃(v1:V1) (x1 x2:Int) (A0:Nat→Int),x1=56∧v1=(⟨.slice none 0 0,rfl⟩:V1)∧v1=(⟨.slice none 0 0,rfl⟩:V1)∧x2=0∧(∀j,j<(ag x2)→A0 j=(fun _=>0) j)∧mN ⟨[],[v1],[x1,x2],[A0],[],[],[]⟩)∧
 ∀(v1:V1) (x1 x2:Int) (A0:Nat→Int),mN ⟨[],[v1],[x1,x2],[A0],[],[],[]⟩→
 aR (0≤x1) (
 ao ((¬((ae .u8 (ak .shr .u64 x0 x1))=0))∨(0≤x2)) (
 aR ((¬((ae .u8 (ak .shr .u64 x0 x1))=0))∨(0<x2)) (
 ∀_:Nat,ao (0≤x2) (
 gV ((x2+1)*1) (
 ∀v2:V1,bH (x1 - 8) ((
 ∃(Hu:V1) (cm cf:Int) (AZ:Nat→Int),cm=(x1 - 8)∧Hu=v2∧Hu=v2∧cf=(x2+1)∧(∀j,j<(ag cf)→AZ j=(aq A0 (ag x2) (ae .u8 (ak .shr .u64 x0 x1))) j)∧mN ⟨[],[Hu],[cm,cf],[AZ],[],[],[]⟩∧qs ⟨[],[Hu],[cm,cf],[AZ],[],[],[]⟩<qs ⟨[],[v1],[x1,x2],[A0],[],[],[]⟩))))) (
 bH (x1 - 8) ((
 ∃(Hu:V1) (cm cf:Int) (AZ:Nat→Int),cm=(x1 - 8)∧Hu=v1∧Hu=v1∧cf=x2∧(∀j,j<(ag cf)→AZ j=A0 j)∧mN ⟨[],[Hu],[cm,cf],[AZ],[],[],[]⟩∧qs ⟨[],[Hu],[cm,cf],[AZ],[],[],[]⟩<qs ⟨[],[v1],[x1,x2],[A0],[],[],[]⟩))))) (
 ar (v1.v) [bo v1 x2 A0]))
theorem Jp(ar:PT)(x0:Int)(h:Aa ar x0):aw ae0 54 [.int .u64 x0] [] ar:=
 mK (C:=Fm.cx) [.int .u64 (.var 0)] [] ⟨0,0,1,0,0,0,0⟩ ⟨[x0],[],[],[],[],[],[],[]⟩ 0 1 Tryz.func54 (by kernel_rfl) h
def HE(ar:PT)(x0 x1:Int):Prop:=
 ∀b0 _:Nat,Cl 54 [.int .u64 x0] [] fun x hs _=> ∃(v0:V1) (x2:Int) (A0:Nat→Int),x=v0.v∧hs=[bo v0 x2 A0]∧
 ao (0≤x2) (
 aR (0<x2) (
 bH (x2 - 1) ((
 gV (1+x2) (
 ∀_:V1,Cl 54 [.int .u64 x1] [] fun x hs _=> ∃(v2:V1) (x3:Int) (A1:Nat→Int),x=v2.v∧hs=[bo v2 x3 A1]∧
 ao (0≤x3) (
 aR (0<x3) (
 bH (x3 - 1) ((
 ao (0<(1+x2)) (
 ao (0≤(1+x2)) (
 gV ((1+x2)+x3) (
 ∀v3:V1,ar (v3.v) [ax b0 true ([.int .u64 x0,.int .u64 x1]),bo v3 ((1+x2)+x3) (aI (aq (aI (fun _=>(ak .bR .u8 0 (ak .bR .u8 8 (ae .u8 (x2 - 1))))) 1 (ag x2) A0) 0 (ak .bR .u8 (ak .shl .u8 ((aI (fun _=>(ak .bR .u8 0 (ak .bR .u8 8 (ae .u8 (x2 - 1))))) 1 (ag x2) A0) 0) 4) (ak .bR .u8 8 (ae .u8 (x3 - 1))))) (ag (1+x2)) (ag x3) A1)])))))) (
 ao (0<(1+x2)) (
 ao (0≤(1+x2)) (
 gV ((1+x2)+x3) (
 ∀v3:V1,ar (v3.v) [ax b0 true ([.int .u64 x0,.int .u64 x1]),bo v3 ((1+x2)+x3) (aI (aq (aI (fun _=>(ak .bR .u8 0 (ak .bR .u8 8 (ae .u8 (x2 - 1))))) 1 (ag x2) A0) 0 (ak .bR .u8 (ak .shl .u8 ((aI (fun _=>(ak .bR .u8 0 (ak .bR .u8 8 (ae .u8 (x2 - 1))))) 1 (ag x2) A0) 0) 4) (ae .u8 (ak .aP .u64 x1 7)))) (ag (1+x2)) (ag x3) A1)]))))))))) (
 gV (1+x2) (
 ∀_:V1,Cl 54 [.int .u64 x1] [] fun x hs _=> ∃(v2:V1) (x3:Int) (A1:Nat→Int),x=v2.v∧hs=[bo v2 x3 A1]∧
 ao (0≤x3) (
 aR (0<x3) (
 bH (x3 - 1) ((
 ao (0<(1+x2)) (
 ao (0≤(1+x2)) (
 gV ((1+x2)+x3) (
 ∀v3:V1,ar (v3.v) [ax b0 true ([.int .u64 x0,.int .u64 x1]),bo v3 ((1+x2)+x3) (aI (aq (aI (fun _=>(ak .bR .u8 0 (ae .u8 (ak .aP .u64 x0 7)))) 1 (ag x2) A0) 0 (ak .bR .u8 (ak .shl .u8 ((aI (fun _=>(ak .bR .u8 0 (ae .u8 (ak .aP .u64 x0 7)))) 1 (ag x2) A0) 0) 4) (ak .bR .u8 8 (ae .u8 (x3 - 1))))) (ag (1+x2)) (ag x3) A1)])))))) (
 ao (0<(1+x2)) (
 ao (0≤(1+x2)) (
 gV ((1+x2)+x3) (
 ∀v3:V1,ar (v3.v) [ax b0 true ([.int .u64 x0,.int .u64 x1]),bo v3 ((1+x2)+x3) (aI (aq (aI (fun _=>(ak .bR .u8 0 (ae .u8 (ak .aP .u64 x0 7)))) 1 (ag x2) A0) 0 (ak .bR .u8 (ak .shl .u8 ((aI (fun _=>(ak .bR .u8 0 (ae .u8 (ak .aP .u64 x0 7)))) 1 (ag x2) A0) 0) 4) (ae .u8 (ak .aP .u64 x1 7)))) (ag (1+x2)) (ag x3) A1)]))))))))
theorem Pu(ar:PT)(x0 x1:Int)(h:HE ar x0 x1):aw ae0 27 [.agg #[.int .u64 x0,.int .u64 x1]] [] ar:=
 Rv (C:=Fm.cx) [.agg [.int .u64 (.var 0),.int .u64 (.var 1)]] [] ⟨0,0,2,0,0,0,0⟩ ⟨[x0,x1],[],[],[],[],[],[],[]⟩ 2 Tryz.func27 (by kernel_rfl) h
def C7(ar:PT)(x0:Int)(A0:Nat→Int)(_:V1):Prop:=
 ∀_:Nat,ao (0≤x0) (
 aR (x0=0) (
 ar (.tuple #[.agg #[.int .u64 0,.int .u64 0],.int .i64 0,.int .i64 9]) []) (
 ∀_:Nat,ao (0<x0) (
 aR ((ak .shr .u8 (A0 0) 4)<8) (
 aR ((ak .aP .u8 (A0 0) 15)<8) (
 ar (.tuple #[.agg #[.int .u64 (ae .u64 (ak .shr .u8 (A0 0) 4)),.int .u64 (ae .u64 (ak .aP .u8 (A0 0) 15))],.int .i64 1,.int .i64 0]) []) (
 bH (ae .u8 ((ak .aP .u8 (A0 0) 15) - 8)) ((
 bH (1+(ae .u8 ((ak .aP .u8 (A0 0) 15) - 8))) ((
 bH ((1+(ae .u8 ((ak .aP .u8 (A0 0) 15) - 8)))+1) ((
 aR (x0<((1+(ae .u8 ((ak .aP .u8 (A0 0) 15) - 8)))+1)) (
 ar (.tuple #[.agg #[.int .u64 0,.int .u64 0],.int .i64 0,.int .i64 9]) []) (
 ao (1≤((1+(ae .u8 ((ak .aP .u8 (A0 0) 15) - 8)))+1)) (
 ao (((1+(ae .u8 ((ak .aP .u8 (A0 0) 15) - 8)))+1)≤x0) (
 ao (0≤(((1+(ae .u8 ((ak .aP .u8 (A0 0) 15) - 8)))+1) - 1)) (
 ∃(kX:Ext→Prop) (oS:Ext→Nat),(∃(x1:Int) (A1:Nat→Int),x1=0∧(∀j,j<2→A1 j=(aI (aq (fun _=>0) 0 (ae .u64 (ak .shr .u8 (A0 0) 4))) 1 1 (fun _=>0)) j)∧kX ⟨[],[],[x1],[A1],[],[],[]⟩)∧
 ∀(x1:Int) (A1:Nat→Int),kX ⟨[],[],[x1],[A1],[],[],[]⟩→
 aR (x1<(((1+(ae .u8 ((ak .aP .u8 (A0 0) 15) - 8)))+1) - 1)) (
 ao (1≤((1+(ae .u8 ((ak .aP .u8 (A0 0) 15) - 8)))+1)) (
 ao (((1+(ae .u8 ((ak .aP .u8 (A0 0) 15) - 8)))+1)≤x0) (
 ao (0≤x1) (
 ao (0≤(1+x1)) (
 ao ((1+x1)<x0) (
 bH (x1+1) ((
 ∃(cm:Int) (qW:Nat→Int),cm=(x1+1)∧(∀j,j<2→qW j=(aq (aI (fun _=>0) 0 1 A1) 1 (ak .bR .u64 (ak .shl .u64 (A1 1) 8) (ae .u64 (A0 (ag (1+x1)))))) j)∧kX ⟨[],[],[cm],[qW],[],[],[]⟩∧oS ⟨[],[],[cm],[qW],[],[],[]⟩<oS ⟨[],[],[x1],[A1],[],[],[]⟩)))))))) (
 Cl 54 [.int .u64 (A1 1)] [] fun x hs _=> ∃(v1:V1) (x2:Int) (A2:Nat→Int),x=v1.v∧hs=[bo v1 x2 A2]∧
 ao (0≤x2) (
 bH (((1+(ae .u8 ((ak .aP .u8 (A0 0) 15) - 8)))+1) - 1) ((
 aR (¬(x2=(((1+(ae .u8 ((ak .aP .u8 (A0 0) 15) - 8)))+1) - 1))) (
 ar (.tuple #[.agg #[.int .u64 0,.int .u64 0],.int .i64 0,.int .i64 9]) []) (
 ar (.tuple #[.agg #[.int .u64 (A1 0),.int .u64 (A1 1)],.int .i64 ((1+(ae .u8 ((ak .aP .u8 (A0 0) 15) - 8)))+1),.int .i64 0]) []))))))))))))))))) (
 bH (ae .u8 ((ak .shr .u8 (A0 0) 4) - 8)) ((
 bH (1+(ae .u8 ((ak .shr .u8 (A0 0) 4) - 8))) ((
 bH ((1+(ae .u8 ((ak .shr .u8 (A0 0) 4) - 8)))+1) ((
 aR (x0<((1+(ae .u8 ((ak .shr .u8 (A0 0) 4) - 8)))+1)) (
 ar (.tuple #[.agg #[.int .u64 0,.int .u64 0],.int .i64 0,.int .i64 9]) []) (
 ao (1≤((1+(ae .u8 ((ak .shr .u8 (A0 0) 4) - 8)))+1)) (
 ao (((1+(ae .u8 ((ak .shr .u8 (A0 0) 4) - 8)))+1)≤x0) (
 ao (0≤(((1+(ae .u8 ((ak .shr .u8 (A0 0) 4) - 8)))+1) - 1)) (
 ∃(wV:Ext→Prop) (C8:Ext→Nat),(∃(x1:Int) (A1:Nat→Int),x1=0∧(∀j,j<2→A1 j=(fun _=>0) j)∧wV ⟨[],[],[x1],[A1],[],[],[]⟩)∧
 ∀(x1:Int) (A1:Nat→Int),wV ⟨[],[],[x1],[A1],[],[],[]⟩→
 aR (x1<(((1+(ae .u8 ((ak .shr .u8 (A0 0) 4) - 8)))+1) - 1)) (
 ao (1≤((1+(ae .u8 ((ak .shr .u8 (A0 0) 4) - 8)))+1)) (
 ao (((1+(ae .u8 ((ak .shr .u8 (A0 0) 4) - 8)))+1)≤x0) (
 ao (0≤x1) (
 ao (0≤(1+x1)) (
 ao ((1+x1)<x0) (
 bH (x1+1) ((
 ∃(cm:Int) (qW:Nat→Int),cm=(x1+1)∧(∀j,j<2→qW j=(aI (aq (fun _=>0) 0 (ak .bR .u64 (ak .shl .u64 (A1 0) 8) (ae .u64 (A0 (ag (1+x1)))))) 1 1 (aA A1 1)) j)∧wV ⟨[],[],[cm],[qW],[],[],[]⟩∧C8 ⟨[],[],[cm],[qW],[],[],[]⟩<C8 ⟨[],[],[x1],[A1],[],[],[]⟩)))))))) (
 Cl 54 [.int .u64 (A1 0)] [] fun x hs _=> ∃(v1:V1) (x2:Int) (A2:Nat→Int),x=v1.v∧hs=[bo v1 x2 A2]∧
 ao (0≤x2) (
 bH (((1+(ae .u8 ((ak .shr .u8 (A0 0) 4) - 8)))+1) - 1) ((
 aR (¬(x2=(((1+(ae .u8 ((ak .shr .u8 (A0 0) 4) - 8)))+1) - 1))) (
 ar (.tuple #[.agg #[.int .u64 0,.int .u64 0],.int .i64 0,.int .i64 9]) []) (
 aR ((ak .aP .u8 (A0 0) 15)<8) (
 ar (.tuple #[.agg #[.int .u64 (A1 0),.int .u64 (ae .u64 (ak .aP .u8 (A0 0) 15))],.int .i64 ((1+(ae .u8 ((ak .shr .u8 (A0 0) 4) - 8)))+1),.int .i64 0]) []) (
 bH (ae .u8 ((ak .aP .u8 (A0 0) 15) - 8)) ((
 bH (((1+(ae .u8 ((ak .shr .u8 (A0 0) 4) - 8)))+1)+(ae .u8 ((ak .aP .u8 (A0 0) 15) - 8))) ((
 bH ((((1+(ae .u8 ((ak .shr .u8 (A0 0) 4) - 8)))+1)+(ae .u8 ((ak .aP .u8 (A0 0) 15) - 8)))+1) ((
 ao (0≤x0) (
 aR (x0<((((1+(ae .u8 ((ak .shr .u8 (A0 0) 4) - 8)))+1)+(ae .u8 ((ak .aP .u8 (A0 0) 15) - 8)))+1)) (
 ar (.tuple #[.agg #[.int .u64 0,.int .u64 0],.int .i64 0,.int .i64 9]) []) (
 ao (0≤((1+(ae .u8 ((ak .shr .u8 (A0 0) 4) - 8)))+1)) (
 ao (((1+(ae .u8 ((ak .shr .u8 (A0 0) 4) - 8)))+1)≤((((1+(ae .u8 ((ak .shr .u8 (A0 0) 4) - 8)))+1)+(ae .u8 ((ak .aP .u8 (A0 0) 15) - 8)))+1)) (
 ao (((((1+(ae .u8 ((ak .shr .u8 (A0 0) 4) - 8)))+1)+(ae .u8 ((ak .aP .u8 (A0 0) 15) - 8)))+1)≤x0) (
 ao (0≤(((((1+(ae .u8 ((ak .shr .u8 (A0 0) 4) - 8)))+1)+(ae .u8 ((ak .aP .u8 (A0 0) 15) - 8)))+1) - ((1+(ae .u8 ((ak .shr .u8 (A0 0) 4) - 8)))+1))) (
 ∃(gq:Ext→Prop) (jM:Ext→Nat),(∃(x3:Int) (A3:Nat→Int),x3=0∧(∀j,j<2→A3 j=A1 j)∧gq ⟨[],[],[x3],[A3],[],[],[]⟩)∧
 ∀(x3:Int) (A3:Nat→Int),gq ⟨[],[],[x3],[A3],[],[],[]⟩→
 aR (x3<(((((1+(ae .u8 ((ak .shr .u8 (A0 0) 4) - 8)))+1)+(ae .u8 ((ak .aP .u8 (A0 0) 15) - 8)))+1) - ((1+(ae .u8 ((ak .shr .u8 (A0 0) 4) - 8)))+1))) (
 ao (0≤((1+(ae .u8 ((ak .shr .u8 (A0 0) 4) - 8)))+1)) (
 ao (((1+(ae .u8 ((ak .shr .u8 (A0 0) 4) - 8)))+1)≤((((1+(ae .u8 ((ak .shr .u8 (A0 0) 4) - 8)))+1)+(ae .u8 ((ak .aP .u8 (A0 0) 15) - 8)))+1)) (
 ao (((((1+(ae .u8 ((ak .shr .u8 (A0 0) 4) - 8)))+1)+(ae .u8 ((ak .aP .u8 (A0 0) 15) - 8)))+1)≤x0) (
 ao (0≤x3) (
 ao (0≤(((1+(ae .u8 ((ak .shr .u8 (A0 0) 4) - 8)))+1)+x3)) (
 ao ((((1+(ae .u8 ((ak .shr .u8 (A0 0) 4) - 8)))+1)+x3)<x0) (
 bH (x3+1) ((
 ∃(dt:Int) (kW:Nat→Int),dt=(x3+1)∧(∀j,j<2→kW j=(aq (aI (fun _=>0) 0 1 A3) 1 (ak .bR .u64 (ak .shl .u64 (A3 1) 8) (ae .u64 (A0 (ag (((1+(ae .u8 ((ak .shr .u8 (A0 0) 4) - 8)))+1)+x3)))))) j)∧gq ⟨[],[],[dt],[kW],[],[],[]⟩∧jM ⟨[],[],[dt],[kW],[],[],[]⟩<jM ⟨[],[],[x3],[A3],[],[],[]⟩))))))))) (
 Cl 54 [.int .u64 (A3 1)] [] fun x hs _=> ∃(v2:V1) (x4:Int) (A4:Nat→Int),x=v2.v∧hs=[bo v2 x4 A4]∧
 ao (0≤x4) (
 bH (((((1+(ae .u8 ((ak .shr .u8 (A0 0) 4) - 8)))+1)+(ae .u8 ((ak .aP .u8 (A0 0) 15) - 8)))+1) - ((1+(ae .u8 ((ak .shr .u8 (A0 0) 4) - 8)))+1)) ((
 aR (¬(x4=(((((1+(ae .u8 ((ak .shr .u8 (A0 0) 4) - 8)))+1)+(ae .u8 ((ak .aP .u8 (A0 0) 15) - 8)))+1) - ((1+(ae .u8 ((ak .shr .u8 (A0 0) 4) - 8)))+1)))) (
 ar (.tuple #[.agg #[.int .u64 0,.int .u64 0],.int .i64 0,.int .i64 9]) []) (
 ar (.tuple #[.agg #[.int .u64 (A3 0),.int .u64 (A3 1)],.int .i64 ((((1+(ae .u8 ((ak .shr .u8 (A0 0) 4) - 8)))+1)+(ae .u8 ((ak .aP .u8 (A0 0) 15) - 8)))+1),.int .i64 0]) [])))))))))))))))))))))))))))))))))))))
theorem LG(ar:PT)(x0:Int)(A0:Nat→Int)(v0:V1)(h:C7 ar x0 A0 v0):aw ae0 34 [v0.v] [bi v0 x0 A0] ar:=
 FJ (C:=Fm.cx) [.vv 0] [.bC false 0 5 1 (.var 0) [⟨.int .u8,1,.aL 0⟩]] ⟨0,1,1,1,0,0,0⟩ ⟨[x0],[A0],[],[],[v0],[],[],[]⟩ Tryz.func34 (by kernel_rfl) h
def wW(ar:PT)(x0:Int):Prop:=
 ∀_ _ _:Nat,aR (((aq (aq (aq (aq (aq (fun _=>0) 20 1) 72 1) 104 1) 272 1) 336 1) (ag ((cR ((List.range 1).map (fun _=>x0)):Nat):Int)))≠0) (
 ar (.tuple #[.agg #[.int .u8 ((aq (aq (aq (aq (aq (fun _=>0) 20 1) 72 1) 104 1) 272 1) 336 2) (ag ((cR ((List.range 1).map (fun _=>x0)):Nat):Int))),.int .i64 ((aq (aq (aq (aq (aq (fun _=>0) 20 48) 72 48) 104 48) 272 16) 336 32) (ag ((cR ((List.range 1).map (fun _=>x0)):Nat):Int))),.int .i64 ((aq (aq (aq (aq (aq (fun _=>0) 20 16) 72 16) 104 16) 272 16) 336 32) (ag ((cR ((List.range 1).map (fun _=>x0)):Nat):Int))),.int .i64 ((aq (aq (aq (aq (aq (fun _=>0) 20 10) 72 8) 104 4) 272 16) 336 16) (ag ((cR ((List.range 1).map (fun _=>x0)):Nat):Int))),.int .i64 ((aq (aq (aq (aq (aq (fun _=>0) 20 32) 72 32) 104 32) 272 32) 336 64) (ag ((cR ((List.range 1).map (fun _=>x0)):Nat):Int)))],.int .i64 0]) []) (
 ar (.tuple #[.agg #[.int .u8 0,.int .i64 0,.int .i64 0,.int .i64 0,.int .i64 0],.int .i64 130]) [])
theorem FQ(ar:PT)(x0:Int)(h:wW ar x0):aw ae0 53 [.int .u16 x0] [] ar:=
 FJ (C:=Fm.cx) [.int .u16 (.var 0)] [] ⟨0,0,1,0,0,0,0⟩ ⟨[x0],[],[],[],[],[],[],[]⟩ Tryz.func53 (by kernel_rfl) h
def Ab(ar:PT)(_ _ x2:Int)(_ A1:Nat→Int)(_:V1):Prop:=
 ∀_ _ _:Nat,ar (.agg (aeU (al .u8 4 A1) ([.int .u8 (ak .ay .u8 (A1 4) (ae .u8 (ak .shr .u64 x2 56))),.int .u8 (ak .ay .u8 (A1 5) (ae .u8 (ak .shr .u64 x2 48))),.int .u8 (ak .ay .u8 (A1 6) (ae .u8 (ak .shr .u64 x2 40))),.int .u8 (ak .ay .u8 (A1 7) (ae .u8 (ak .shr .u64 x2 32))),.int .u8 (ak .ay .u8 (A1 8) (ae .u8 (ak .shr .u64 x2 24))),.int .u8 (ak .ay .u8 (A1 9) (ae .u8 (ak .shr .u64 x2 16))),.int .u8 (ak .ay .u8 (A1 10) (ae .u8 (ak .shr .u64 x2 8))),.int .u8 (ak .ay .u8 (A1 11) (ae .u8 (ak .shr .u64 x2 0)))])).toArray) []
theorem Jq(ar:PT)(x0 x1 x2:Int)(A0 A1:Nat→Int)(v0:V1)(h:Ab ar x0 x1 x2 A0 A1 v0):aw ae0 57 [.agg (.int .u16 x0::(.int .u64 x1::(v0.v::(aeU (al .u8 12 A1) ([]))))).toArray,.int .u64 x2] [] ar:=
 FJ (C:=Fm.cx) [.agg [.int .u16 (.var 0),.int .u64 (.var 1),.vv 0,.cE .u8 12 (.aL 1)],.int .u64 (.var 2)] [] ⟨0,1,3,2,0,0,0⟩ ⟨[x0,x1,x2],[A0,A1],[],[],[v0],[],[],[]⟩ Tryz.func57 (by kernel_rfl) h
def wX(ar:PT)(x0 x1:Int)(A0 A1:Nat→Int)(v0 v1:V1)(b0:Nat):Prop:=
 ao (0≤x0) (
 bH x0 ((
 aR (x0<0) (
 False) (
 ao (0≤x1) (
 bH (x0+x1) ((
 aR ((x0+x1)<0) (
 False) (
 aR (0<(x0+x1)) (
 ao (0≤(x0+x1)) (
 gV (x0+x1) (
 ∀_:V1,gV x0 (
 ∀_ v4:V1,ar (v4.v) [ax b0 true ([v0.v,v1.v]),bo v4 (x0+x1) (aI A0 (ag x0) (ag x1) A1)])))) (
 gV x0 (
 ∀_:V1,gV (x0+x1) (
 ∀v3:V1,ar (v3.v) [ax b0 true ([v0.v,v1.v]),bo v3 (x0+x1) (aI A0 (ag x0) (ag x1) A1)])))))))))))
theorem FR(ar:PT)(x0 x1:Int)(A0 A1:Nat→Int)(v0 v1:V1)(b0:Nat)(h:wX ar x0 x1 A0 A1 v0 v1 b0):aw ae0 29 [.slice (some ⟨b0,0,none⟩) 2 2] [ax b0 true ([v0.v,v1.v]),bi v0 x0 A0,bi v1 x1 A1] ar:=
 mK (C:=Fm.cx) [.sl 0 (.lit 0) 1 (.lit 2) (.lit 2)] [.row 0 true [.vv 0,.vv 1],.bC false 0 5 1 (.var 0) [⟨.int .u8,1,.aL 0⟩],.bC false 1 5 1 (.var 1) [⟨.int .u8,1,.aL 1⟩]] ⟨1,2,2,2,0,0,0⟩ ⟨[x0,x1],[A0,A1],[],[b0],[v0,v1],[],[],[]⟩ 1 1 Tryz.func29 (by kernel_rfl) h
def C9(ar:PT)(x0 x1 x2 x3 x4 x5:Int)(A0 A1 A2 A3:Nat→Int)(v0 v1 v2:V1):Prop:=
 ∀b0 b1 b2:Nat,Cl 53 [.int .u16 x0] [] fun x hs _=> ∃x6 x7 x8 x9 dS dQ:Int,x= .tuple #[.agg #[.int .u8 x6,.int .i64 x7,.int .i64 x8,.int .i64 x9,.int .i64 dS],.int .i64 dQ]∧hs=[]∧
 ∀b3:Nat,aR (¬(dQ=0)) (
 ∀b4:Nat,ar (.tuple #[.slice none 0 0,.int .i64 dQ]) [bi v0 x3 A0,bi v1 x4 A2,bi v2 x5 A3,ax b0 true (.int .u16 x0::(.int .u64 x1::(v0.v::(aeU (al .u8 12 A1) ([]))))),ax b1 true (.int .u16 x0::(.int .u64 x1::(v0.v::(aeU (al .u8 12 A1) ([]))))),ax b2 true ([.int .u8 x6,.int .i64 x7,.int .i64 x8,.int .i64 x9,.int .i64 dS]),ax b3 true ([.int .u8 x6,.int .i64 x7,.int .i64 x8,.int .i64 x9,.int .i64 dS]),ax b4 true ([.int .u8 x6,.int .i64 x7,.int .i64 x8,.int .i64 x9,.int .i64 dS])]) (
 ao (0≤x3) (
 aR (¬(x3=x7)) (
 ∀b4:Nat,ar (.tuple #[.slice none 0 0,.int .i64 2]) [bi v0 x3 A0,bi v1 x4 A2,bi v2 x5 A3,ax b0 true (.int .u16 x0::(.int .u64 x1::(v0.v::(aeU (al .u8 12 A1) ([]))))),ax b1 true (.int .u16 x0::(.int .u64 x1::(v0.v::(aeU (al .u8 12 A1) ([]))))),ax b2 true ([.int .u8 x6,.int .i64 x7,.int .i64 x8,.int .i64 x9,.int .i64 dS]),ax b3 true ([.int .u8 x6,.int .i64 x7,.int .i64 x8,.int .i64 x9,.int .i64 dS]),ax b4 true ([.int .u8 x6,.int .i64 x7,.int .i64 x8,.int .i64 x9,.int .i64 dS])]) (
 ao (0≤x4) (
 aR (1024<x4) (
 ∀b4:Nat,ar (.tuple #[.slice none 0 0,.int .i64 3]) [bi v0 x3 A0,bi v1 x4 A2,bi v2 x5 A3,ax b0 true (.int .u16 x0::(.int .u64 x1::(v0.v::(aeU (al .u8 12 A1) ([]))))),ax b1 true (.int .u16 x0::(.int .u64 x1::(v0.v::(aeU (al .u8 12 A1) ([]))))),ax b2 true ([.int .u8 x6,.int .i64 x7,.int .i64 x8,.int .i64 x9,.int .i64 dS]),ax b3 true ([.int .u8 x6,.int .i64 x7,.int .i64 x8,.int .i64 x9,.int .i64 dS]),ax b4 true ([.int .u8 x6,.int .i64 x7,.int .i64 x8,.int .i64 x9,.int .i64 dS])]) (
 ∀b4:Nat,ao (0≤x5) (
 aR (65536<x5) (
 ar (.tuple #[.slice none 0 0,.int .i64 3]) [bi v0 x3 A0,bi v1 x4 A2,bi v2 x5 A3,ax b0 true (.int .u16 x0::(.int .u64 x1::(v0.v::(aeU (al .u8 12 A1) ([]))))),ax b1 true (.int .u16 x0::(.int .u64 x1::(v0.v::(aeU (al .u8 12 A1) ([]))))),ax b2 true ([.int .u8 x6,.int .i64 x7,.int .i64 x8,.int .i64 x9,.int .i64 dS]),ax b3 true ([.int .u8 x6,.int .i64 x7,.int .i64 x8,.int .i64 x9,.int .i64 dS]),ax b4 true ([.int .u8 x6,.int .i64 x7,.int .i64 x8,.int .i64 x9,.int .i64 dS])]) (
 Cl 27 [.agg #[.int .u64 x1,.int .u64 x2]] [] fun x hs _=> ∃(v3:V1) (dK:Int) (A4:Nat→Int),x=v3.v∧hs=[bo v3 dK A4]∧
 ∀_ _ _:Nat,aR (x7=x8) (
 ∀b8:Nat,Cl 29 [.slice (some ⟨b8,0,none⟩) 2 2] [ax b8 true ([v3.v,v1.v]),bo v3 dK A4,bi v1 x4 A2] fun x hs l=> ∃(v4:V1) (cT:Int) (A5:Nat→Int),x=v4.v∧hs=l++[bo v4 cT A5]∧
 Cl 57 [.agg (.int .u16 x0::(.int .u64 x1::(v0.v::(aeU (al .u8 12 A1) ([]))))).toArray,.int .u64 x2] [] fun x hs _=> ∃A6:(Nat→Int),x= .agg (aeU (al .u8 12 A6) ([])).toArray∧hs=[]∧
 Cl 56 [v0.v,.agg (aeU (al .u8 12 A6) ([])).toArray,v4.v,v2.v] [bi v0 x3 A0,bo v4 cT A5,bi v2 x5 A3] fun x hs l=> ∃(v5:V1) (oF kO:Int) (A7:Nat→Int),x= .tuple #[v5.v,.int .i64 kO]∧hs=l++[bo v5 oF A7]∧
 ao (0≤oF) (
 ao (0≤dK) (
 ao (0≤oF) (
 gV (dK+oF) (
 ∀v6:V1,ar (.tuple #[v6.v,.int .i64 0]) [bi v0 x3 A0,bi v1 x4 A2,bi v2 x5 A3,ax b0 true (.int .u16 x0::(.int .u64 x1::(v0.v::(aeU (al .u8 12 A1) ([]))))),ax b1 true (.int .u16 x0::(.int .u64 x1::(v0.v::(aeU (al .u8 12 A1) ([]))))),ax b2 true ([.int .u8 x6,.int .i64 x7,.int .i64 x8,.int .i64 x9,.int .i64 dS]),ax b3 true ([.int .u8 x6,.int .i64 x7,.int .i64 x8,.int .i64 x9,.int .i64 dS]),ax b4 true ([.int .u8 x6,.int .i64 x7,.int .i64 x8,.int .i64 x9,.int .i64 dS]),bo v6 (dK+oF) (aI A4 (ag dK) (ag oF) A7)]))))) (
 ao (0≤x8) (
 ao (x8≤x3) (
 Cl 60 [(aD 1 v0.v 0 (ag x8) none)] [bi v0 x3 A0] fun x hs l=> ∃(b8:Nat) (v4:V1) (cT:Int) (A5 A6:Nat→Int),x= .tuple #[.pointer (some ⟨b8,0,none⟩),.int .i64 0]∧hs=l++[ax b8 true (aeU (al .u8 256 A5) ([v4.v])),aE true 177 4 v4.v (ag cT) (aQ (ag cT) [aO .u8 4 A6])]∧
 ∀_ _ _ Rw:Nat,Cl 29 [.slice (some ⟨Rw,0,none⟩) 2 2] [ax Rw true ([v3.v,v1.v]),bo v3 dK A4,bi v1 x4 A2] fun x hs l=> ∃(v5:V1) (oF:Int) (A7:Nat→Int),x=v5.v∧hs=l++[bo v5 oF A7]∧
 ∀_:Nat,Cl 57 [.agg (.int .u16 x0::(.int .u64 x1::(v0.v::(aeU (al .u8 12 A1) ([]))))).toArray,.int .u64 x2] [] fun x hs _=> ∃A8:(Nat→Int),x= .agg (aeU (al .u8 12 A8) ([])).toArray∧hs=[]∧
 ∀_ K1:Nat,Cl 62 [.pointer (some ⟨b8,0,none⟩),.agg (aeU (al .u8 16 (aI (fun _=>0) 0 12 A8)) ([])).toArray,.slice (some ⟨K1,0,none⟩) 1 1] [ax b8 true (aeU (al .u8 256 A5) ([v4.v])),aE true 177 4 v4.v (ag cT) (aQ (ag cT) [aO .u8 4 A6]),ax K1 true ([v2.v]),bi v2 x5 A3] fun x hs l=> ∃(v6:V1) (kO:Int) (A9:Nat→Int),x= .tuple #[v6.v,.int .i64 0]∧hs=l++[bo v6 kO A9]∧
 Cl 57 [.agg (.int .u16 x0::(.int .u64 x1::(v0.v::(aeU (al .u8 12 A1) ([]))))).toArray,.int .u64 x2] [] fun x hs _=> ∃gH:(Nat→Int),x= .agg (aeU (al .u8 12 gH) ([])).toArray∧hs=[]∧
 ∀CW:Nat,ao (0≤oF) (
 ao (0≤kO) (
 Cl 65 [.int .i64 oF] [] fun x hs _=> ∃(v7:V1) (oT:Nat→Int),x=v7.v∧hs=[bn true v7 8 oT]∧
 Cl 65 [.int .i64 kO] [] fun x hs _=> ∃(v8:V1) (Fx:Nat→Int),x=v8.v∧hs=[bn true v8 8 Fx]∧
 Cl 65 [.int .i64 x9] [] fun x hs _=> ∃(v9:V1) (y6:Nat→Int),x=v9.v∧hs=[bn true v9 8 y6]∧
 ∀Rx:Nat,Cl 64 [.int .u8 x6,(aD 1 v0.v (ag x8) (ag x3) none),.slice (some ⟨Rx,0,none⟩) 6 6] [bi v0 x3 A0,ax Rx true ([v7.v,v8.v,v9.v,.slice (some ⟨CW,0,none⟩) 12 12,v5.v,v6.v]),bn true v7 8 oT,bn true v8 8 Fx,bn true v9 8 y6,ax CW true (aeU (al .u8 12 gH) ([])),bo v5 oF A7,bo v6 kO A9] fun x hs l=> ∃(v10:V1) (yY:Int) (OH:Nat→Int),x=v10.v∧hs=l++[bo v10 yY OH]∧
 ao (0≤x9) (
 ao (x9≤yY) (
 gV (kO+x9) (
 ∀_:V1,ao (0≤(kO+x9)) (
 ao (0≤dK) (
 ao (0≤(kO+x9)) (
 gV (dK+(kO+x9)) (
 ∀oL:V1,ar (.tuple #[oL.v,.int .i64 0]) [bi v0 x3 A0,bi v1 x4 A2,bi v2 x5 A3,ax b0 true (.int .u16 x0::(.int .u64 x1::(v0.v::(aeU (al .u8 12 A1) ([]))))),ax b1 true (.int .u16 x0::(.int .u64 x1::(v0.v::(aeU (al .u8 12 A1) ([]))))),ax b2 true ([.int .u8 x6,.int .i64 x7,.int .i64 x8,.int .i64 x9,.int .i64 dS]),ax b3 true ([.int .u8 x6,.int .i64 x7,.int .i64 x8,.int .i64 x9,.int .i64 dS]),ax b4 true ([.int .u8 x6,.int .i64 x7,.int .i64 x8,.int .i64 x9,.int .i64 dS]),bo oL (dK+(kO+x9)) (aI A4 (ag dK) (ag (kO+x9)) (aI A9 (ag kO) (ag x9) OH))])))))))))))))))))))
theorem LH(ar:PT)(x0 x1 x2 x3 x4 x5:Int)(A0 A1 A2 A3:Nat→Int)(v0 v1 v2:V1)(h:C9 ar x0 x1 x2 x3 x4 x5 A0 A1 A2 A3 v0 v1 v2):aw ae0 8 [.agg (.int .u16 x0::(.int .u64 x1::(v0.v::(aeU (al .u8 12 A1) ([]))))).toArray,.int .u64 x2,v1.v,v2.v] [bi v0 x3 A0,bi v1 x4 A2,bi v2 x5 A3] ar:=
 Rv (C:=Fm.cx) [.agg [.int .u16 (.var 0),.int .u64 (.var 1),.vv 0,.cE .u8 12 (.aL 1)],.int .u64 (.var 2),.vv 1,.vv 2] [.bC false 0 5 1 (.var 3) [⟨.int .u8,1,.aL 0⟩],.bC false 1 5 1 (.var 4) [⟨.int .u8,1,.aL 2⟩],.bC false 2 5 1 (.var 5) [⟨.int .u8,1,.aL 3⟩]] ⟨0,3,6,4,0,0,0⟩ ⟨[x0,x1,x2,x3,x4,x5],[A0,A1,A2,A3],[],[],[v0,v1,v2],[],[],[]⟩ 9 Tryz.func8 (by kernel_rfl) h
def C_(ar:PT)(x0 x1 x2 x3 x4:Int)(A0 A1 A2 A3:Nat→Int)(v0 v1 v2:V1):Prop:=
 ∀_ _ _:Nat,Cl 53 [.int .u16 x0] [] fun x hs _=> ∃x5 x6 x7 x8 x9 dS:Int,x= .tuple #[.agg #[.int .u8 x5,.int .i64 x6,.int .i64 x7,.int .i64 x8,.int .i64 x9],.int .i64 dS]∧hs=[]∧
 ∀_:Nat,aR (¬(dS=0)) (
 ∀b4:Nat,ar (.tuple #[.slice none 0 0,.int .u64 0,.int .i64 dS]) [ax b4 true ([.int .u8 x5,.int .i64 x6,.int .i64 x7,.int .i64 x8,.int .i64 x9])]) (
 ao (0≤x2) (
 aR (¬(x2=x6)) (
 ∀b4:Nat,ar (.tuple #[.slice none 0 0,.int .u64 0,.int .i64 2]) [ax b4 true ([.int .u8 x5,.int .i64 x6,.int .i64 x7,.int .i64 x8,.int .i64 x9])]) (
 ao (0≤x3) (
 aR (1024<x3) (
 ∀b4:Nat,ar (.tuple #[.slice none 0 0,.int .u64 0,.int .i64 3]) [ax b4 true ([.int .u8 x5,.int .i64 x6,.int .i64 x7,.int .i64 x8,.int .i64 x9])]) (
 ∀_:Nat,Cl 34 [v2.v] [bi v2 x4 A3] fun x hs l=> ∃dQ dK cT oF:Int,x= .tuple #[.agg #[.int .u64 dQ,.int .u64 dK],.int .i64 cT,.int .i64 oF]∧hs=l∧
 ∀b5:Nat,aR (¬(oF=0)) (
 ar (.tuple #[.slice none 0 0,.int .u64 0,.int .i64 oF]) [ax b5 true ([.int .u64 dQ,.int .u64 dK])]) (
 aR (¬(dQ=x1)) (
 ar (.tuple #[.slice none 0 0,.int .u64 0,.int .i64 4]) [ax b5 true ([.int .u64 dQ,.int .u64 dK])]) (
 ao (0≤x4) (
 bH (x4 - cT) ((
 bH (65536+x8) ((
 aR ((65536+x8)<(x4 - cT)) (
 ar (.tuple #[.slice none 0 0,.int .u64 0,.int .i64 3]) [ax b5 true ([.int .u64 dQ,.int .u64 dK])]) (
 ao (0≤cT) (
 ao (cT≤x4) (
 (∀_ _ _:Nat,aR (x6=x7) (
 ∀b9:Nat,Cl 29 [.slice (some ⟨b9,0,none⟩) 2 2] [ax b9 true ([(aD 1 v2.v 0 (ag cT) none),v1.v]),bi v2 x4 A3,bi v1 x3 A2] fun x hs l=> ∃(v3:V1) (kO:Int) (A4:Nat→Int),x=v3.v∧hs=l++[bo v3 kO A4]∧
 Cl 57 [.agg (.int .u16 x0::(.int .u64 x1::(v0.v::(aeU (al .u8 12 A1) ([]))))).toArray,.int .u64 dK] [] fun x hs _=> ∃A5:(Nat→Int),x= .agg (aeU (al .u8 12 A5) ([])).toArray∧hs=[]∧
 Cl 59 [v0.v,.agg (aeU (al .u8 12 A5) ([])).toArray,v3.v,(aD 1 v2.v (ag cT) (ag x4) none)] [bi v0 x2 A0,bo v3 kO A4,bi v2 x4 A3] fun x hs l=> ∃(v4:V1) (yY Da:Int) (A6:Nat→Int),x= .tuple #[v4.v,.int .i64 Da]∧hs=l++[bo v4 yY A6]∧
 aR (¬(Da=0)) (
 ar (.tuple #[.slice none 0 0,.int .u64 0,.int .i64 Da]) [bo v4 yY A6]) (
 ar (.tuple #[v4.v,.int .u64 dK,.int .i64 0]) [bo v4 yY A6])) (
 ao (0≤x7) (
 ao (x7≤x2) (
 Cl 60 [(aD 1 v0.v 0 (ag x7) none)] [bi v0 x2 A0] fun x hs l=> ∃(b9:Nat) (v3:V1) (kO:Int) (A4 A5:Nat→Int),x= .tuple #[.pointer (some ⟨b9,0,none⟩),.int .i64 0]∧hs=l++[ax b9 true (aeU (al .u8 256 A4) ([v3.v])),aE true 177 4 v3.v (ag kO) (aQ (ag kO) [aO .u8 4 A5])]∧
 ∀_ _ _ Pb:Nat,Cl 29 [.slice (some ⟨Pb,0,none⟩) 2 2] [ax Pb true ([(aD 1 v2.v 0 (ag cT) none),v1.v]),bi v2 x4 A3,bi v1 x3 A2] fun x hs l=> ∃(v4:V1) (yY:Int) (A6:Nat→Int),x=v4.v∧hs=l++[bo v4 yY A6]∧
 ao (0≤(x4 - cT)) (
 bH ((x4 - cT) - x8) ((
 ao ((((x4 - cT) - x8)<0)∨(0≤cT)) (
 ao ((((x4 - cT) - x8)<0)∨(cT≤x4)) (
 ao ((((x4 - cT) - x8)<0)∨(0≤((x4 - cT) - x8))) (
 ao ((((x4 - cT) - x8)<0)∨((cT+((x4 - cT) - x8))≤x4)) (
 ao ((((x4 - cT) - x8)<0)∨(0≤cT)) (
 ao ((((x4 - cT) - x8)<0)∨(cT≤x4)) (
 ao ((((x4 - cT) - x8)<0)∨(0≤((x4 - cT) - x8))) (
 ao ((((x4 - cT) - x8)<0)∨(((x4 - cT) - x8)≤(x4 - cT))) (
 ao ((((x4 - cT) - x8)<0)∨((cT+(x4 - cT))≤x4)) (
 aR (¬(((x4 - cT) - x8)<0)) (
 Cl 57 [.agg (.int .u16 x0::(.int .u64 x1::(v0.v::(aeU (al .u8 12 A1) ([]))))).toArray,.int .u64 dK] [] fun x hs _=> ∃A7:(Nat→Int),x= .agg (aeU (al .u8 12 A7) ([])).toArray∧hs=[]∧
 ∀KZ:Nat,ao (0≤yY) (
 ao (0≤((x4 - cT) - x8)) (
 ao ((cT+((x4 - cT) - x8))≤x4) (
 ao (0≤((x4 - cT) - x8)) (
 Cl 65 [.int .i64 yY] [] fun x hs _=> ∃(v5:V1) (A8:Nat→Int),x=v5.v∧hs=[bn true v5 8 A8]∧
 Cl 65 [.int .i64 ((x4 - cT) - x8)] [] fun x hs _=> ∃(v6:V1) (A9:Nat→Int),x=v6.v∧hs=[bn true v6 8 A9]∧
 Cl 65 [.int .i64 x8] [] fun x hs _=> ∃(v7:V1) (gH:Nat→Int),x=v7.v∧hs=[bn true v7 8 gH]∧
 ∀K1:Nat,Cl 64 [.int .u8 x5,(aD 1 v0.v (ag x7) (ag x2) none),.slice (some ⟨K1,0,none⟩) 6 6] [bi v0 x2 A0,ax K1 true ([v5.v,v6.v,v7.v,.slice (some ⟨KZ,0,none⟩) 12 12,v4.v,(aD 1 (aD 1 v2.v (ag cT) (ag x4) none) 0 (ag ((x4 - cT) - x8)) none)]),bn true v5 8 A8,bn true v6 8 A9,bn true v7 8 gH,ax KZ true (aeU (al .u8 12 A7) ([])),bo v4 yY A6,bi v2 x4 A3] fun x hs l=> ∃(v8:V1) (Da:Int) (oT:Nat→Int),x=v8.v∧hs=l++[bo v8 Da oT]∧
 ao (0≤x8) (
 ao (x8≤Da) (
 Cl 68 [(aD 1 v8.v 0 (ag x8) none),(if(!(decide (((x4 - cT) - x8)<0)))then(aD 1 (aD 1 v2.v (ag cT) (ag x4) none) (ag ((x4 - cT) - x8)) (ag (x4 - cT)) none)else undef)] [bo v8 Da oT,bi v2 x4 A3] fun x hs l=> ∃q0:Bool,x= .bool q0∧hs=l∧
 aR (¬(q0=true)) (
 ar (.tuple #[.slice none 0 0,.int .u64 0,.int .i64 140]) [bo v8 Da oT]) (
 ∀_:Nat,Cl 57 [.agg (.int .u16 x0::(.int .u64 x1::(v0.v::(aeU (al .u8 12 A1) ([]))))).toArray,.int .u64 dK] [] fun x hs _=> ∃Fx:(Nat→Int),x= .agg (aeU (al .u8 12 Fx) ([])).toArray∧hs=[]∧
 ∀_ K2:Nat,Cl 62 [.pointer (some ⟨b9,0,none⟩),.agg (aeU (al .u8 16 (aI (fun _=>0) 0 12 Fx)) ([])).toArray,.slice (some ⟨K2,0,none⟩) 1 1] [ax b9 true (aeU (al .u8 256 A4) ([v3.v])),aE true 177 4 v3.v (ag kO) (aQ (ag kO) [aO .u8 4 A5]),ax K2 true ([(aD 1 (aD 1 v2.v (ag cT) (ag x4) none) 0 (ag ((x4 - cT) - x8)) none)]),bi v2 x4 A3] fun x hs l=> ∃(v9:V1) (U5:Int) (y6:Nat→Int),x= .tuple #[v9.v,.int .i64 0]∧hs=l++[bo v9 U5 y6]∧
 ar (.tuple #[v9.v,.int .u64 dK,.int .i64 0]) [bo v9 U5 y6])))))))) (
 ar (.tuple #[.slice none 0 0,.int .u64 0,.int .i64 140]) [bo v4 yY A6])))))))))))))))))∧
 (∀b6 _ _ _:Nat,aR (x6=x7) (
 Cl 29 [.slice (some ⟨b6,0,none⟩) 2 2] [ax b6 true ([(aD 1 v2.v 0 (ag cT) none),v1.v]),bi v2 x4 A3,bi v1 x3 A2] fun x hs l=> ∃(v3:V1) (kO:Int) (A4:Nat→Int),x=v3.v∧hs=l++[bo v3 kO A4]∧
 Cl 57 [.agg (.int .u16 x0::(.int .u64 x1::(v0.v::(aeU (al .u8 12 A1) ([]))))).toArray,.int .u64 dK] [] fun x hs _=> ∃A5:(Nat→Int),x= .agg (aeU (al .u8 12 A5) ([])).toArray∧hs=[]∧
 Cl 59 [v0.v,.agg (aeU (al .u8 12 A5) ([])).toArray,v3.v,(aD 1 v2.v (ag cT) (ag x4) none)] [bi v0 x2 A0,bo v3 kO A4,bi v2 x4 A3] fun x hs l=> ∃(v4:V1) (yY Da:Int) (A6:Nat→Int),x= .tuple #[v4.v,.int .i64 Da]∧hs=l++[bo v4 yY A6]∧
 aR (¬(Da=0)) (
 ar (.tuple #[.slice none 0 0,.int .u64 0,.int .i64 Da]) [bo v4 yY A6]) (
 ar (.tuple #[v4.v,.int .u64 dK,.int .i64 0]) [bo v4 yY A6])) (
 ao (0≤x7) (
 ao (x7≤x2) (
 Cl 60 [(aD 1 v0.v 0 (ag x7) none)] [bi v0 x2 A0] fun x hs l=> ∃(Pa:Nat) (v3:V1) (kO:Int) (A4 A5:Nat→Int),x= .tuple #[.pointer (some ⟨Pa,0,none⟩),.int .i64 0]∧hs=l++[ax Pa true (aeU (al .u8 256 A4) ([v3.v])),aE true 177 4 v3.v (ag kO) (aQ (ag kO) [aO .u8 4 A5])]∧
 ∀_ _ _:Nat,Cl 29 [.slice (some ⟨b6,0,none⟩) 2 2] [ax b6 true ([(aD 1 v2.v 0 (ag cT) none),v1.v]),bi v2 x4 A3,bi v1 x3 A2] fun x hs l=> ∃(v4:V1) (yY:Int) (A6:Nat→Int),x=v4.v∧hs=l++[bo v4 yY A6]∧
 ao (0≤(x4 - cT)) (
 bH ((x4 - cT) - x8) ((
 ao ((((x4 - cT) - x8)<0)∨(0≤cT)) (
 ao ((((x4 - cT) - x8)<0)∨(cT≤x4)) (
 ao ((((x4 - cT) - x8)<0)∨(0≤((x4 - cT) - x8))) (
 ao ((((x4 - cT) - x8)<0)∨((cT+((x4 - cT) - x8))≤x4)) (
 ao ((((x4 - cT) - x8)<0)∨(0≤cT)) (
 ao ((((x4 - cT) - x8)<0)∨(cT≤x4)) (
 ao ((((x4 - cT) - x8)<0)∨(0≤((x4 - cT) - x8))) (
 ao ((((x4 - cT) - x8)<0)∨(((x4 - cT) - x8)≤(x4 - cT))) (
 ao ((((x4 - cT) - x8)<0)∨((cT+(x4 - cT))≤x4)) (
 aR (¬(((x4 - cT) - x8)<0)) (
 Cl 57 [.agg (.int .u16 x0::(.int .u64 x1::(v0.v::(aeU (al .u8 12 A1) ([]))))).toArray,.int .u64 dK] [] fun x hs _=> ∃A7:(Nat→Int),x= .agg (aeU (al .u8 12 A7) ([])).toArray∧hs=[]∧
 ∀KZ:Nat,ao (0≤yY) (
 ao (0≤((x4 - cT) - x8)) (
 ao ((cT+((x4 - cT) - x8))≤x4) (
 ao (0≤((x4 - cT) - x8)) (
 Cl 65 [.int .i64 yY] [] fun x hs _=> ∃(v5:V1) (A8:Nat→Int),x=v5.v∧hs=[bn true v5 8 A8]∧
 Cl 65 [.int .i64 ((x4 - cT) - x8)] [] fun x hs _=> ∃(v6:V1) (A9:Nat→Int),x=v6.v∧hs=[bn true v6 8 A9]∧
 Cl 65 [.int .i64 x8] [] fun x hs _=> ∃(v7:V1) (gH:Nat→Int),x=v7.v∧hs=[bn true v7 8 gH]∧
 ∀K1:Nat,Cl 64 [.int .u8 x5,(aD 1 v0.v (ag x7) (ag x2) none),.slice (some ⟨K1,0,none⟩) 6 6] [bi v0 x2 A0,ax K1 true ([v5.v,v6.v,v7.v,.slice (some ⟨KZ,0,none⟩) 12 12,v4.v,(aD 1 (aD 1 v2.v (ag cT) (ag x4) none) 0 (ag ((x4 - cT) - x8)) none)]),bn true v5 8 A8,bn true v6 8 A9,bn true v7 8 gH,ax KZ true (aeU (al .u8 12 A7) ([])),bo v4 yY A6,bi v2 x4 A3] fun x hs l=> ∃(v8:V1) (Da:Int) (oT:Nat→Int),x=v8.v∧hs=l++[bo v8 Da oT]∧
 ao (0≤x8) (
 ao (x8≤Da) (
 Cl 68 [(aD 1 v8.v 0 (ag x8) none),(if(!(decide (((x4 - cT) - x8)<0)))then(aD 1 (aD 1 v2.v (ag cT) (ag x4) none) (ag ((x4 - cT) - x8)) (ag (x4 - cT)) none)else undef)] [bo v8 Da oT,bi v2 x4 A3] fun x hs l=> ∃q0:Bool,x= .bool q0∧hs=l∧
 aR (¬(q0=true)) (
 ar (.tuple #[.slice none 0 0,.int .u64 0,.int .i64 140]) [bo v8 Da oT]) (
 ∀_:Nat,Cl 57 [.agg (.int .u16 x0::(.int .u64 x1::(v0.v::(aeU (al .u8 12 A1) ([]))))).toArray,.int .u64 dK] [] fun x hs _=> ∃Fx:(Nat→Int),x= .agg (aeU (al .u8 12 Fx) ([])).toArray∧hs=[]∧
 ∀_ K2:Nat,Cl 62 [.pointer (some ⟨Pa,0,none⟩),.agg (aeU (al .u8 16 (aI (fun _=>0) 0 12 Fx)) ([])).toArray,.slice (some ⟨K2,0,none⟩) 1 1] [ax Pa true (aeU (al .u8 256 A4) ([v3.v])),aE true 177 4 v3.v (ag kO) (aQ (ag kO) [aO .u8 4 A5]),ax K2 true ([(aD 1 (aD 1 v2.v (ag cT) (ag x4) none) 0 (ag ((x4 - cT) - x8)) none)]),bi v2 x4 A3] fun x hs l=> ∃(v9:V1) (U5:Int) (y6:Nat→Int),x= .tuple #[v9.v,.int .i64 0]∧hs=l++[bo v9 U5 y6]∧
 ar (.tuple #[v9.v,.int .u64 dK,.int .i64 0]) [bo v9 U5 y6])))))))) (
 ar (.tuple #[.slice none 0 0,.int .u64 0,.int .i64 140]) [bo v4 yY A6]))))))))))))))))))))))))))))))))
theorem LI(ar:PT)(x0 x1 x2 x3 x4:Int)(A0 A1 A2 A3:Nat→Int)(v0 v1 v2:V1)(h:C_ ar x0 x1 x2 x3 x4 A0 A1 A2 A3 v0 v1 v2):aw ae0 10 [.agg (.int .u16 x0::(.int .u64 x1::(v0.v::(aeU (al .u8 12 A1) ([]))))).toArray,v1.v,v2.v] [bi v0 x2 A0,bi v1 x3 A2,bi v2 x4 A3] ar:=
 mK (C:=Fm.cx) [.agg [.int .u16 (.var 0),.int .u64 (.var 1),.vv 0,.cE .u8 12 (.aL 1)],.vv 1,.vv 2] [.bC false 0 5 1 (.var 2) [⟨.int .u8,1,.aL 0⟩],.bC false 1 5 1 (.var 3) [⟨.int .u8,1,.aL 2⟩],.bC false 2 5 1 (.var 4) [⟨.int .u8,1,.aL 3⟩]] ⟨0,3,5,4,0,0,0⟩ ⟨[x0,x1,x2,x3,x4],[A0,A1,A2,A3],[],[],[v0,v1,v2],[],[],[]⟩ 0 1 Tryz.func10 (by kernel_rfl) h
end Go.RX.Fm
