/- Frames. -/
import Derived.Test.YtmgbbbmdbpbeeaaGreatM17
open Go.IntKind renaming wrap → ae
open Go.Proofs.Tryz renaming prog → aiT
open Int renaming toNat → ag
open List renaming append → aiL, range → ajw
namespace Go.RX.Fm
open Go.RX Go.Proofs Go.RX.Fe Go.RX.Fg Go.RX.Fi Go.RX.Fj Go.RX.Fk Go.RX.Fl
noncomputable def cx:Ctx:={T:=TT,FT:=FT,loops:=Fm.loops,bB:=Fm.bB}
set_option maxRecDepth 100000
def np(ao:PT)(A0 A1 A2:Nat→Int)(v0 v1 _:V1)(b0:Nat):Prop:=
 ∀_:V1,∃(cc:Ext→Prop) (cu:Ext→Nat),(∃(x0:Int) (A3:Nat→Int),x0=0∧(∀j,j<64→A3 j=(fun _=>0) j)∧cc ⟨[],[],[x0],[A3],[],[],[]⟩)∧
 ∀(x0:Int) (A3:Nat→Int),cc ⟨[],[],[x0],[A3],[],[],[]⟩→
 aJ (x0<64) (
 aw (0≤(ae .i64 (ak .quo .i64 x0 4))) (
 aw ((ae .i64 (ak .quo .i64 x0 4))<64) (
 aw (0≤x0) (
 cg (x0+1) ((
 ∃(jd:Int) (jf:Nat→Int),jd=(x0+1)∧(∀j,j<64→jf j=(au A3 (ag (ae .i64 (ak .quo .i64 x0 4))) (ak .bC .u32 (ak .shl .u32 (A3 (ag (ae .i64 (ak .quo .i64 x0 4)))) 8) (ae .u32 (A2 (ag x0))))) j)∧cc ⟨[],[],[jd],[jf],[],[],[]⟩∧cu ⟨[],[],[jd],[jf],[],[],[]⟩<cu ⟨[],[],[x0],[A3],[],[],[]⟩)))))) (
 ∃(dS:Ext→Prop) (gv:Ext→Nat),(∃(x1:Int) (A4:Nat→Int),x1=16∧(∀j,j<64→A4 j=A3 j)∧dS ⟨[],[],[x1],[A4],[],[],[]⟩)∧
 ∀(x1:Int) (A4:Nat→Int),dS ⟨[],[],[x1],[A4],[],[],[]⟩→
 aJ (x1<64) (
 cg (x1 - 2) ((
 aw (0≤(x1 - 2)) (
 aw ((x1 - 2)<64) (
 cg (x1 - 7) ((
 aw (0≤(x1 - 7)) (
 aw ((x1 - 7)<64) (
 cg (x1 - 15) ((
 aw (0≤(x1 - 15)) (
 aw ((x1 - 15)<64) (
 cg (x1 - 16) ((
 aw (0≤(x1 - 16)) (
 aw ((x1 - 16)<64) (
 ∀_ _:Nat,aw (0≤x1) (
 cg (x1+1) ((
 ∃(dr:Int) (BO:Nat→Int),dr=(x1+1)∧(∀j,j<64→BO j=(au A4 (ag x1) (ae .u32 ((ae .u32 ((ae .u32 ((ak .aB .u32 (ak .aB .u32 (ak .bC .u32 (ak .shr .u32 (A4 (ag (x1 - 2))) 17) (ak .shl .u32 (A4 (ag (x1 - 2))) 15)) (ak .bC .u32 (ak .shr .u32 (A4 (ag (x1 - 2))) 19) (ak .shl .u32 (A4 (ag (x1 - 2))) 13))) (ak .shr .u32 (A4 (ag (x1 - 2))) 10))+(A4 (ag (x1 - 7)))))+(ak .aB .u32 (ak .aB .u32 (ak .bC .u32 (ak .shr .u32 (A4 (ag (x1 - 15))) 7) (ak .shl .u32 (A4 (ag (x1 - 15))) 25)) (ak .bC .u32 (ak .shr .u32 (A4 (ag (x1 - 15))) 18) (ak .shl .u32 (A4 (ag (x1 - 15))) 14))) (ak .shr .u32 (A4 (ag (x1 - 15))) 3))))+(A4 (ag (x1 - 16)))))) j)∧dS ⟨[],[],[dr],[BO],[],[],[]⟩∧gv ⟨[],[],[dr],[BO],[],[],[]⟩<gv ⟨[],[],[x1],[A4],[],[],[]⟩)))))))))))))))))))) (
 ∀_:Nat,∃(lG:Ext→Prop) (ph:Ext→Nat),(∃x2 x3 x4 x5 x6 x7 x8 x9 bP:Int,bP=0∧x2=(A0 0)∧x3=(A0 1)∧x4=(A0 2)∧x5=(A0 3)∧x6=(A0 4)∧x7=(A0 5)∧x8=(A0 6)∧x9=(A0 7)∧lG ⟨[],[],[x2,x3,x4,x5,x6,x7,x8,x9,bP],[],[],[],[]⟩)∧
 ∀x2 x3 x4 x5 x6 x7 x8 x9 bP:Int,lG ⟨[],[],[x2,x3,x4,x5,x6,x7,x8,x9,bP],[],[],[],[]⟩→
 aJ (bP<64) (
 aw (0≤bP) (
 ∀_ _:Nat,cg (bP+1) ((
 ∃ei dJ dT jH xu GD Uf Ug GF:Int,GF=(bP+1)∧ei=(ae .u32 ((ae .u32 ((ae .u32 ((ae .u32 ((ae .u32 (x9+(ak .aB .u32 (ak .aB .u32 (ak .bC .u32 (ak .shr .u32 x6 6) (ak .shl .u32 x6 26)) (ak .bC .u32 (ak .shr .u32 x6 11) (ak .shl .u32 x6 21))) (ak .bC .u32 (ak .shr .u32 x6 25) (ak .shl .u32 x6 7)))))+(ak .aB .u32 (ak .aM .u32 x6 x7) (ak .aM .u32 (ak .aB .u32 4294967295 x6) x8))))+(A1 (ag bP))))+(A4 (ag bP))))+(ae .u32 ((ak .aB .u32 (ak .aB .u32 (ak .bC .u32 (ak .shr .u32 x2 2) (ak .shl .u32 x2 30)) (ak .bC .u32 (ak .shr .u32 x2 13) (ak .shl .u32 x2 19))) (ak .bC .u32 (ak .shr .u32 x2 22) (ak .shl .u32 x2 10)))+(ak .aB .u32 (ak .aB .u32 (ak .aM .u32 x2 x3) (ak .aM .u32 x2 x4)) (ak .aM .u32 x3 x4))))))∧dJ=x2∧dT=x3∧jH=x4∧xu=(ae .u32 (x5+(ae .u32 ((ae .u32 ((ae .u32 ((ae .u32 (x9+(ak .aB .u32 (ak .aB .u32 (ak .bC .u32 (ak .shr .u32 x6 6) (ak .shl .u32 x6 26)) (ak .bC .u32 (ak .shr .u32 x6 11) (ak .shl .u32 x6 21))) (ak .bC .u32 (ak .shr .u32 x6 25) (ak .shl .u32 x6 7)))))+(ak .aB .u32 (ak .aM .u32 x6 x7) (ak .aM .u32 (ak .aB .u32 4294967295 x6) x8))))+(A1 (ag bP))))+(A4 (ag bP))))))∧GD=x6∧Uf=x7∧Ug=x8∧lG ⟨[],[],[ei,dJ,dT,jH,xu,GD,Uf,Ug,GF],[],[],[],[]⟩∧ph ⟨[],[],[ei,dJ,dT,jH,xu,GD,Uf,Ug,GF],[],[],[],[]⟩<ph ⟨[],[],[x2,x3,x4,x5,x6,x7,x8,x9,bP],[],[],[],[]⟩)))) (
 ∃(dU:Ext→Prop) (gw:Ext→Nat),(∃(fm:Int) (A5 A6:Nat→Int),fm=0∧(∀j,j<8→A5 j=A0 j)∧(∀j,j<8→A6 j=(au (au (au (au (au (au (au (au (fun _=>0) 0 x2) 1 x3) 2 x4) 3 x5) 4 x6) 5 x7) 6 x8) 7 x9) j)∧dU ⟨[],[],[fm],[A5,A6],[],[],[]⟩)∧
 ∀(fm:Int) (A5 A6:Nat→Int),dU ⟨[],[],[fm],[A5,A6],[],[],[]⟩→
 aJ (fm<8) (
 aw (0≤fm) (
 cg (fm+1) ((
 ∃(GG:Int) (BP ui:Nat→Int),GG=(fm+1)∧(∀j,j<8→BP j=(au A5 (ag fm) (ae .u32 ((A5 (ag fm))+(A6 (ag fm))))) j)∧(∀j,j<8→ui j=A6 j)∧dU ⟨[],[],[GG],[BP,ui],[],[],[]⟩∧gw ⟨[],[],[GG],[BP,ui],[],[],[]⟩<gw ⟨[],[],[fm],[A5,A6],[],[],[]⟩)))) (
 ao (.tuple #[]) [al b0 true ([v0.v,v1.v,.int .i64 4,.int .i64 2,.int .i64 13,.int .i64 22,.int .i64 6,.int .i64 11,.int .i64 25,.int .i64 7,.int .i64 18,.int .i64 3,.int .i64 17,.int .i64 19,.int .i64 10]),aG true 225 1 v0.v 8 (aW 8 [bd .u32 1 A5]),aG true 225 1 v1.v 64 (aW 64 [bd .u32 1 A1])]))))
theorem Dm(ao:PT)(A0 A1 A2:Nat→Int)(v0 v1 v2:V1)(b0:Nat)(h:np ao A0 A1 A2 v0 v1 v2 b0):gq 151 [.ptr 0 0,.vv 2] [.row 0 true [.vv 0,.vv 1,.int .i64 (.lit 4),.int .i64 (.lit 2),.int .i64 (.lit 13),.int .i64 (.lit 22),.int .i64 (.lit 6),.int .i64 (.lit 11),.int .i64 (.lit 25),.int .i64 (.lit 7),.int .i64 (.lit 18),.int .i64 (.lit 3),.int .i64 (.lit 17),.int .i64 (.lit 19),.int .i64 (.lit 10)],.bK true 0 225 1 (.lit 8) [⟨.int .u32,1,.aN 0⟩],.bK true 1 225 1 (.lit 64) [⟨.int .u32,1,.aN 1⟩],.bK false 2 5 1 (.lit 64) [⟨.int .u8,1,.aN 2⟩]] ⟨[],[A0,A1,A2],[],[b0],[v0,v1,v2],[],[],[]⟩ ao:=
 Mj (C:=Fm.cx) _ _ ⟨1,3,0,3,0,0,0⟩ _ 3 Tryz.func151 (by kernel_rfl) h
def AG(ao:PT):Prop:=
 ∀(b0 b1:Nat) (_:V1) (b2:Nat) (_:V1) (b3:Nat) (_:V1) (b4:Nat) (_:V1) (b5:Nat) (_:V1) (b6:Nat) (_:V1) (b7:Nat) (_:V1) (b8:Nat) (v7:V1) (b9 Qd:Nat) (_:V1) (ZW:Nat) (_:V1) (S6:Nat) (_:V1) (Qe:Nat) (_:V1) (Mk:Nat) (_:V1) (Ml:Nat) (_:V1) (Dn:Nat) (_:V1) (S7:Nat) (_:V1) (Mm:Nat) (_:V1) (Dd:Nat) (_:V1) (zT:Nat) (_:V1) (P0:Nat) (_:V1) (b22:Nat) (_:V1) (b23:Nat) (_:V1) (b24:Nat) (_:V1) (b25:Nat) (_:V1) (b26:Nat) (_:V1) (b27:Nat) (_:V1) (b28:Nat) (_:V1) (b29:Nat) (_:V1) (b30:Nat) (_:V1) (b31:Nat) (_:V1) (b32:Nat) (_:V1) (b33:Nat) (_:V1) (b34:Nat) (_:V1) (b35:Nat) (_:V1) (b36:Nat) (_:V1) (b37:Nat) (_:V1) (b38:Nat) (_:V1) (b39:Nat) (_:V1) (b40:Nat) (_:V1) (b41:Nat) (_:V1) (b42:Nat) (_:V1) (b43:Nat) (_:V1) (b44:Nat) (_:V1) (b45:Nat) (_:V1) (b46:Nat) (_:V1) (b47:Nat) (_:V1) (b48:Nat) (_:V1) (b49:Nat) (_:V1) (b50:Nat) (_:V1) (b51:Nat) (_:V1) (b52:Nat) (_:V1) (b53:Nat) (_:V1) (b54:Nat) (_:V1) (W4:Nat) (_:V1) (W5:Nat) (_:V1) (b57:Nat) (_:V1) (b58:Nat) (_:V1) (b59:Nat) (_:V1) (b60:Nat) (_:V1) (b61:Nat) (_:V1) (b62:Nat) (_:V1) (b63:Nat) (_:V1) (b64:Nat) (_:V1) (b65:Nat) (_:V1) (b66:Nat) (_:V1) (ZX:Nat) (_:V1) (ZY:Nat) (_:V1) (b69:Nat) (_:V1) (b70:Nat) (_:V1) (b71:Nat) (_:V1) (b72:Nat) (_:V1) (b73:Nat) (v71:V1) (b74:Nat),ao (.pointer (some ⟨b74,0,none⟩)) [al b0 true ([.int .u64 7640891576956012808,.int .u64 13503953896175478587,.int .u64 4354685564936845355,.int .u64 11912009170470909681,.int .u64 5840696475078001361,.int .u64 11170449401992604703,.int .u64 2270897969802886507,.int .u64 6620516959819538809]),al b1 true ([.int .u32 1779033703]),aG true 225 1 v7.v 8 (aW 8 [bd .u32 1 (au (au (au (au (au (au (au (au (fun _=>0) 0 1779033703) 1 3144134277) 2 1013904242) 3 2773480762) 4 1359893119) 5 2600822924) 6 528734635) 7 1541459225)]),al b2 true ([.int .u32 3144134277]),al b3 true ([.int .u32 1013904242]),al b4 true ([.int .u32 2773480762]),al b5 true ([.int .u32 1359893119]),al b6 true ([.int .u32 2600822924]),al b7 true ([.int .u32 528734635]),al b8 true ([.int .u32 1541459225]),al b9 true ([.int .u64 4794697086780616226,.int .u64 8158064640168781261,.int .u64 13096744586834688815,.int .u64 16840607885511220156,.int .u64 4131703408338449720,.int .u64 6480981068601479193,.int .u64 10538285296894168987,.int .u64 12329834152419229976,.int .u64 15566598209576043074,.int .u64 1334009975649890238,.int .u64 2608012711638119052,.int .u64 6128411473006802146,.int .u64 8268148722764581231,.int .u64 9286055187155687089,.int .u64 11230858885718282805,.int .u64 13951009754708518548,.int .u64 16472876342353939154,.int .u64 17275323862435702243,.int .u64 1135362057144423861,.int .u64 2597628984639134821,.int .u64 3308224258029322869,.int .u64 5365058923640841347,.int .u64 6679025012923562964,.int .u64 8573033837759648693,.int .u64 10970295158949994411,.int .u64 12119686244451234320,.int .u64 12683024718118986047,.int .u64 13788192230050041572,.int .u64 14330467153632333762,.int .u64 15395433587784984357,.int .u64 489312712824947311,.int .u64 1452737877330783856,.int .u64 2861767655752347644,.int .u64 3322285676063803686,.int .u64 5560940570517711597,.int .u64 5996557281743188959,.int .u64 7280758554555802590,.int .u64 8532644243296465576,.int .u64 9350256976987008742,.int .u64 10552545826968843579,.int .u64 11727347734174303076,.int .u64 12113106623233404929,.int .u64 14000437183269869457,.int .u64 14369950271660146224,.int .u64 15101387698204529176,.int .u64 15463397548674623760,.int .u64 17586052441742319658,.int .u64 1182934255886127544,.int .u64 1847814050463011016,.int .u64 2177327727835720531,.int .u64 2830643537854262169,.int .u64 3796741975233480872,.int .u64 4115178125766777443,.int .u64 5681478168544905931,.int .u64 6601373596472566643,.int .u64 7507060721942968483,.int .u64 8399075790359081724,.int .u64 8693463985226723168,.int .u64 9568029438360202098,.int .u64 10144078919501101548,.int .u64 10430055236837252648,.int .u64 11840083180663258601,.int .u64 13761210420658862357,.int .u64 14299343276471374635,.int .u64 14566680578165727644,.int .u64 15097957966210449927,.int .u64 16922976911328602910,.int .u64 17689382322260857208,.int .u64 500013540394364858,.int .u64 748580250866718886,.int .u64 1242879168328830382,.int .u64 1977374033974150939,.int .u64 2944078676154940804,.int .u64 3659926193048069267,.int .u64 4368137639120453308,.int .u64 4836135668995329356,.int .u64 5532061633213252278,.int .u64 6448918945643986474,.int .u64 6902733635092675308,.int .u64 7801388544844847127]),al Qd true ([.int .u32 1116352408]),aG true 225 1 v71.v 64 (aW 64 [bd .u32 1 (au (au (au (au (au (au (au (au (au (au (au (au (au (au (au (au (au (au (au (au (au (au (au (au (au (au (au (au (au (au (au (au (au (au (au (au (au (au (au (au (au (au (au (au (au (au (au (au (au (au (au (au (au (au (au (au (au (au (au (au (au (au (au (au (fun _=>0) 0 1116352408) 1 1899447441) 2 3049323471) 3 3921009573) 4 961987163) 5 1508970993) 6 2453635748) 7 2870763221) 8 3624381080) 9 310598401) 10 607225278) 11 1426881987) 12 1925078388) 13 2162078206) 14 2614888103) 15 3248222580) 16 3835390401) 17 4022224774) 18 264347078) 19 604807628) 20 770255983) 21 1249150122) 22 1555081692) 23 1996064986) 24 2554220882) 25 2821834349) 26 2952996808) 27 3210313671) 28 3336571891) 29 3584528711) 30 113926993) 31 338241895) 32 666307205) 33 773529912) 34 1294757372) 35 1396182291) 36 1695183700) 37 1986661051) 38 2177026350) 39 2456956037) 40 2730485921) 41 2820302411) 42 3259730800) 43 3345764771) 44 3516065817) 45 3600352804) 46 4094571909) 47 275423344) 48 430227734) 49 506948616) 50 659060556) 51 883997877) 52 958139571) 53 1322822218) 54 1537002063) 55 1747873779) 56 1955562222) 57 2024104815) 58 2227730452) 59 2361852424) 60 2428436474) 61 2756734187) 62 3204031479) 63 3329325298)]),al ZW true ([.int .u32 1899447441]),al S6 true ([.int .u32 3049323471]),al Qe true ([.int .u32 3921009573]),al Mk true ([.int .u32 961987163]),al Ml true ([.int .u32 1508970993]),al Dn true ([.int .u32 2453635748]),al S7 true ([.int .u32 2870763221]),al Mm true ([.int .u32 3624381080]),al Dd true ([.int .u32 310598401]),al zT true ([.int .u32 607225278]),al P0 true ([.int .u32 1426881987]),al b22 true ([.int .u32 1925078388]),al b23 true ([.int .u32 2162078206]),al b24 true ([.int .u32 2614888103]),al b25 true ([.int .u32 3248222580]),al b26 true ([.int .u32 3835390401]),al b27 true ([.int .u32 4022224774]),al b28 true ([.int .u32 264347078]),al b29 true ([.int .u32 604807628]),al b30 true ([.int .u32 770255983]),al b31 true ([.int .u32 1249150122]),al b32 true ([.int .u32 1555081692]),al b33 true ([.int .u32 1996064986]),al b34 true ([.int .u32 2554220882]),al b35 true ([.int .u32 2821834349]),al b36 true ([.int .u32 2952996808]),al b37 true ([.int .u32 3210313671]),al b38 true ([.int .u32 3336571891]),al b39 true ([.int .u32 3584528711]),al b40 true ([.int .u32 113926993]),al b41 true ([.int .u32 338241895]),al b42 true ([.int .u32 666307205]),al b43 true ([.int .u32 773529912]),al b44 true ([.int .u32 1294757372]),al b45 true ([.int .u32 1396182291]),al b46 true ([.int .u32 1695183700]),al b47 true ([.int .u32 1986661051]),al b48 true ([.int .u32 2177026350]),al b49 true ([.int .u32 2456956037]),al b50 true ([.int .u32 2730485921]),al b51 true ([.int .u32 2820302411]),al b52 true ([.int .u32 3259730800]),al b53 true ([.int .u32 3345764771]),al b54 true ([.int .u32 3516065817]),al W4 true ([.int .u32 3600352804]),al W5 true ([.int .u32 4094571909]),al b57 true ([.int .u32 275423344]),al b58 true ([.int .u32 430227734]),al b59 true ([.int .u32 506948616]),al b60 true ([.int .u32 659060556]),al b61 true ([.int .u32 883997877]),al b62 true ([.int .u32 958139571]),al b63 true ([.int .u32 1322822218]),al b64 true ([.int .u32 1537002063]),al b65 true ([.int .u32 1747873779]),al b66 true ([.int .u32 1955562222]),al ZX true ([.int .u32 2024104815]),al ZY true ([.int .u32 2227730452]),al b69 true ([.int .u32 2361852424]),al b70 true ([.int .u32 2428436474]),al b71 true ([.int .u32 2756734187]),al b72 true ([.int .u32 3204031479]),al b73 true ([.int .u32 3329325298]),al b74 true ([v7.v,v71.v,.int .i64 4,.int .i64 2,.int .i64 13,.int .i64 22,.int .i64 6,.int .i64 11,.int .i64 25,.int .i64 7,.int .i64 18,.int .i64 3,.int .i64 17,.int .i64 19,.int .i64 10])]
theorem J9(ao:PT)(h:AG ao):gq 138 [] [] ⟨[],[],[],[],[],[],[],[]⟩ ao:=
 Gr (C:=Fm.cx) _ _ ⟨0,0,0,0,0,0,0⟩ _ Tryz.func138 (by kernel_rfl) h
def IA(ao:PT)(x0 x1 x2 x3 x4 x5:Int)(A0 A1 A2 A3 A4 A5 A6:Nat→Int)(v0 v1 v2 v3 v4 v5 v6:V1)(b0:Nat):Prop:=
 Cl 97 [.int .u8 1,v6.v,.int .u8 54] [bn false v6 32 A6] fun x hs l=> ∃(v7:V1) (x6:Int) (A7:Nat→Int),x=v7.v∧hs=l++[bo v7 x6 A7]∧
 ∀(_:Nat) (v8:V1),Cl 96 [.int .u8 1,v8.v] [aG true 24 1 v8.v 7 [v7.v,v0.v,v1.v,v2.v,v3.v,v4.v,v5.v],bo v7 x6 A7,bi v0 x0 A0,bi v1 x1 A1,bi v2 x2 A2,bi v3 x3 A3,bi v4 x4 A4,bi v5 x5 A5] fun x hs l=> ∃(v9:V1) (x7:Int) (A8:Nat→Int),x=v9.v∧hs=l++[bo v9 x7 A8]∧
 Cl 97 [.int .u8 1,v6.v,.int .u8 92] [bn false v6 32 A6] fun x hs l=> ∃(v10:V1) (x8:Int) (A9:Nat→Int),x=v10.v∧hs=l++[bo v10 x8 A9]∧
 ∀b2:Nat,Cl 96 [.int .u8 1,.slice (some ⟨b2,0,none⟩) 2 2] [al b2 true ([v10.v,v9.v]),bo v10 x8 A9,bo v9 x7 A8] fun x hs l=> ∃(v11:V1) (x9:Int) (vm:Nat→Int),x=v11.v∧hs=l++[bo v11 x9 vm]∧
 ao (v11.v) [al b0 true ([v0.v,v1.v,v2.v,v3.v,v4.v,v5.v]),bo v11 x9 vm]
theorem Qf(ao:PT)(x0 x1 x2 x3 x4 x5:Int)(A0 A1 A2 A3 A4 A5 A6:Nat→Int)(v0 v1 v2 v3 v4 v5 v6:V1)(b0:Nat)(h:IA ao x0 x1 x2 x3 x4 x5 A0 A1 A2 A3 A4 A5 A6 v0 v1 v2 v3 v4 v5 v6 b0):gq 64 [.int .u8 (.lit 1),.vv 6,.sl 0 (.lit 0) 1 (.lit 6) (.lit 6)] [.row 0 true [.vv 0,.vv 1,.vv 2,.vv 3,.vv 4,.vv 5],.bK false 0 5 1 (.var 0) [⟨.int .u8,1,.aN 0⟩],.bK false 1 5 1 (.var 1) [⟨.int .u8,1,.aN 1⟩],.bK false 2 5 1 (.var 2) [⟨.int .u8,1,.aN 2⟩],.bK false 3 5 1 (.var 3) [⟨.int .u8,1,.aN 3⟩],.bK false 4 5 1 (.var 4) [⟨.int .u8,1,.aN 4⟩],.bK false 5 5 1 (.var 5) [⟨.int .u8,1,.aN 5⟩],.bK false 6 5 1 (.lit 32) [⟨.int .u8,1,.aN 6⟩]] ⟨[x0,x1,x2,x3,x4,x5],[A0,A1,A2,A3,A4,A5,A6],[],[b0],[v0,v1,v2,v3,v4,v5,v6],[],[],[]⟩ ao:=
 qX (C:=Fm.cx) _ _ ⟨1,7,6,7,0,0,0⟩ _ 1 1 Tryz.func64 (by kernel_rfl) h
def AH(ao:PT)(A0:Nat→Int)(_:V1):Prop:=
 ∃post,BQ aiT 143 [.int .i64 64] [] post∧
 ∀x hs,post x hs→∃(v1:V1) (x0:Int) (A1:Nat→Int),x=v1.v∧hs=[bo v1 x0 A1]∧
 aw (64≤x0) (
 ao ((aC 1 v1.v 0 64 (some 64))) [bo v1 x0 (ay (ay (ay (ay (ay (ay (ay A1 0 1 A0) 1 1 (ay A1 0 1 A0)) 2 2 (ay (ay A1 0 1 A0) 1 1 (ay A1 0 1 A0))) 4 4 (ay (ay (ay A1 0 1 A0) 1 1 (ay A1 0 1 A0)) 2 2 (ay (ay A1 0 1 A0) 1 1 (ay A1 0 1 A0)))) 8 8 (ay (ay (ay (ay A1 0 1 A0) 1 1 (ay A1 0 1 A0)) 2 2 (ay (ay A1 0 1 A0) 1 1 (ay A1 0 1 A0))) 4 4 (ay (ay (ay A1 0 1 A0) 1 1 (ay A1 0 1 A0)) 2 2 (ay (ay A1 0 1 A0) 1 1 (ay A1 0 1 A0))))) 16 16 (ay (ay (ay (ay (ay A1 0 1 A0) 1 1 (ay A1 0 1 A0)) 2 2 (ay (ay A1 0 1 A0) 1 1 (ay A1 0 1 A0))) 4 4 (ay (ay (ay A1 0 1 A0) 1 1 (ay A1 0 1 A0)) 2 2 (ay (ay A1 0 1 A0) 1 1 (ay A1 0 1 A0)))) 8 8 (ay (ay (ay (ay A1 0 1 A0) 1 1 (ay A1 0 1 A0)) 2 2 (ay (ay A1 0 1 A0) 1 1 (ay A1 0 1 A0))) 4 4 (ay (ay (ay A1 0 1 A0) 1 1 (ay A1 0 1 A0)) 2 2 (ay (ay A1 0 1 A0) 1 1 (ay A1 0 1 A0)))))) 32 32 (ay (ay (ay (ay (ay (ay A1 0 1 A0) 1 1 (ay A1 0 1 A0)) 2 2 (ay (ay A1 0 1 A0) 1 1 (ay A1 0 1 A0))) 4 4 (ay (ay (ay A1 0 1 A0) 1 1 (ay A1 0 1 A0)) 2 2 (ay (ay A1 0 1 A0) 1 1 (ay A1 0 1 A0)))) 8 8 (ay (ay (ay (ay A1 0 1 A0) 1 1 (ay A1 0 1 A0)) 2 2 (ay (ay A1 0 1 A0) 1 1 (ay A1 0 1 A0))) 4 4 (ay (ay (ay A1 0 1 A0) 1 1 (ay A1 0 1 A0)) 2 2 (ay (ay A1 0 1 A0) 1 1 (ay A1 0 1 A0))))) 16 16 (ay (ay (ay (ay (ay A1 0 1 A0) 1 1 (ay A1 0 1 A0)) 2 2 (ay (ay A1 0 1 A0) 1 1 (ay A1 0 1 A0))) 4 4 (ay (ay (ay A1 0 1 A0) 1 1 (ay A1 0 1 A0)) 2 2 (ay (ay A1 0 1 A0) 1 1 (ay A1 0 1 A0)))) 8 8 (ay (ay (ay (ay A1 0 1 A0) 1 1 (ay A1 0 1 A0)) 2 2 (ay (ay A1 0 1 A0) 1 1 (ay A1 0 1 A0))) 4 4 (ay (ay (ay A1 0 1 A0) 1 1 (ay A1 0 1 A0)) 2 2 (ay (ay A1 0 1 A0) 1 1 (ay A1 0 1 A0)))))))])
theorem J_(ao:PT)(A0:Nat→Int)(v0:V1)(h:AH ao A0 v0):gq 118 [.vv 0,.int .i64 (.lit 64)] [.bK false 0 5 1 (.lit 1) [⟨.int .u8,1,.aN 0⟩]] ⟨[],[A0],[],[],[v0],[],[],[]⟩ ao:=
 qX (C:=Fm.cx) _ _ ⟨0,1,0,1,0,0,0⟩ _ 0 1 Tryz.func118 (by kernel_rfl) h
def xw(ao:PT)(x0:Int)(A0:Nat→Int)(_:V1):Prop:=
 ∀b0:Nat,Cl 118 [.slice (some ⟨b0,0,none⟩) 1 1,.int .i64 64] [al b0 true ([.int .u8 x0])] fun x hs l=> ∃(v1:V1) (x1:Int) (A1:Nat→Int),x=v1.v∧hs=l++[bo v1 x1 A1]∧
 ∃(cc:Ext→Prop) (cu:Ext→Nat),(∃(x2:Int) (A2:Nat→Int),x2=0∧(∀j,j<(ag x1)→A2 j=A1 j)∧cc ⟨[],[],[x2],[A2],[],[],[]⟩)∧
 ∀(x2:Int) (A2:Nat→Int),cc ⟨[],[],[x2],[A2],[],[],[]⟩→
 aJ (x2<32) (
 aw (0≤x2) (
 aw (x2<x1) (
 cg (x2+1) ((
 ∃(ei:Int) (fo:Nat→Int),ei=(x2+1)∧(∀j,j<(ag x1)→fo j=(au A2 (ag x2) (ak .aB .u8 (A2 (ag x2)) (A0 (ag x2)))) j)∧cc ⟨[],[],[ei],[fo],[],[],[]⟩∧cu ⟨[],[],[ei],[fo],[],[],[]⟩<cu ⟨[],[],[x2],[A2],[],[],[]⟩))))) (
 ao (v1.v) [bo v1 x1 A2])
theorem GH(ao:PT)(x0:Int)(A0:Nat→Int)(v0:V1)(h:xw ao x0 A0 v0):gq 97 [.int .u8 (.lit 1),.vv 0,.int .u8 (.var 0)] [.bK false 0 5 1 (.lit 32) [⟨.int .u8,1,.aN 0⟩]] ⟨[x0],[A0],[],[],[v0],[],[],[]⟩ ao:=
 qX (C:=Fm.cx) _ _ ⟨0,1,1,1,0,0,0⟩ _ 0 1 Tryz.func97 (by kernel_rfl) h
def S8(ao:PT)(x0:Int):Prop:=
 ∀(b0:Nat) (_:V1) (_:Nat) (_:V1) (_:Nat) (_:V1) (_:Nat) (_:V1) (_:Nat) (_:V1) (_:Nat) (_:V1) (_:Nat) (_:V1) (_:Nat) (v7:V1),ao (v7.v) [al b0 true ([.int .u8 (ae .u8 (ak .shr .i64 x0 56))]),bn true v7 8 (au (au (au (au (au (au (au (au (fun _=>0) 0 (ae .u8 (ak .shr .i64 x0 56))) 1 (ae .u8 (ak .shr .i64 x0 48))) 2 (ae .u8 (ak .shr .i64 x0 40))) 3 (ae .u8 (ak .shr .i64 x0 32))) 4 (ae .u8 (ak .shr .i64 x0 24))) 5 (ae .u8 (ak .shr .i64 x0 16))) 6 (ae .u8 (ak .shr .i64 x0 8))) 7 (ae .u8 (ak .shr .i64 x0 0)))]
theorem W6(ao:PT)(x0:Int)(h:S8 ao x0):gq 65 [.int .i64 (.var 0)] [] ⟨[x0],[],[],[],[],[],[],[]⟩ ao:=
 Mj (C:=Fm.cx) _ _ ⟨0,0,1,0,0,0,0⟩ _ 2 Tryz.func65 (by kernel_rfl) h
def wY(ao:PT)(x0 x1:Int)(A0 A1:Nat→Int)(_ _:V1):Prop:=
 aw (0≤x0) (
 aw (0≤x1) (
 aJ (¬(x0=x1)) (
 ao (.bool false) []) (
 ∃(fL:Ext→Prop) (fY:Ext→Nat),(∃x2 x3:Int,x2=0∧x3=0∧fL ⟨[],[],[x2,x3],[],[],[],[]⟩)∧
 ∀x2 x3:Int,fL ⟨[],[],[x2,x3],[],[],[],[]⟩→
 aJ (x2<x0) (
 aw (0≤x2) (
 aw (x2<x1) (
 cg (x2+1) ((
 ∃ei dJ:Int,ei=(x2+1)∧dJ=(ak .bC .u8 x3 (ak .aB .u8 (A0 (ag x2)) (A1 (ag x2))))∧fL ⟨[],[],[ei,dJ],[],[],[],[]⟩∧fY ⟨[],[],[ei,dJ],[],[],[],[]⟩<fY ⟨[],[],[x2,x3],[],[],[],[]⟩))))) (
 ao (.bool (x3==0)) []))))
theorem IB(ao:PT)(x0 x1:Int)(A0 A1:Nat→Int)(v0 v1:V1)(h:wY ao x0 x1 A0 A1 v0 v1):gq 68 [.vv 0,.vv 1] [.bK false 0 5 1 (.var 0) [⟨.int .u8,1,.aN 0⟩],.bK false 1 5 1 (.var 1) [⟨.int .u8,1,.aN 1⟩]] ⟨[x0,x1],[A0,A1],[],[],[v0,v1],[],[],[]⟩ ao:=
 Uh (C:=Fm.cx) _ _ ⟨0,2,2,2,0,0,0⟩ _ Tryz.func68 (by kernel_rfl) h
def AI(ao:PT)(x0:Int):Prop:=
 aJ (x0<8) (
 ao (.slice none 0 0) []) (
 ∃(fL:Ext→Prop) (fY:Ext→Nat),(∃(v1:V1) (x1 x2:Int) (A0:Nat→Int),x1=56∧v1=(⟨.slice none 0 0,rfl⟩:V1)∧v1=(⟨.slice none 0 0,rfl⟩:V1)∧x2=0∧(∀j,j<(ag x2)→A0 j=(fun _=>0) j)∧fL ⟨[],[v1],[x1,x2],[A0],[],[],[]⟩)∧
 ∀(v1:V1) (x1 x2:Int) (A0:Nat→Int),fL ⟨[],[v1],[x1,x2],[A0],[],[],[]⟩→
 aJ (0≤x1) (
 aw ((¬((ae .u8 (ak .shr .u64 x0 x1))=0))∨(0≤x2)) (
 aJ ((¬((ae .u8 (ak .shr .u64 x0 x1))=0))∨(0<x2)) (
 ∀_:Nat,aw (0≤x2) (
 nq ((x2+1)*1) (
 ∀v2:V1,cg (x1 - 8) ((
 ∃(rj:V1) (dr ei:Int) (xx:Nat→Int),dr=(x1 - 8)∧rj=v2∧rj=v2∧ei=(x2+1)∧(∀j,j<(ag ei)→xx j=(au A0 (ag x2) (ae .u8 (ak .shr .u64 x0 x1))) j)∧fL ⟨[],[rj],[dr,ei],[xx],[],[],[]⟩∧fY ⟨[],[rj],[dr,ei],[xx],[],[],[]⟩<fY ⟨[],[v1],[x1,x2],[A0],[],[],[]⟩))))) (
 cg (x1 - 8) ((
 ∃(rj:V1) (dr ei:Int) (xx:Nat→Int),dr=(x1 - 8)∧rj=v1∧rj=v1∧ei=x2∧(∀j,j<(ag ei)→xx j=A0 j)∧fL ⟨[],[rj],[dr,ei],[xx],[],[],[]⟩∧fY ⟨[],[rj],[dr,ei],[xx],[],[],[]⟩<fY ⟨[],[v1],[x1,x2],[A0],[],[],[]⟩))))) (
 ao (v1.v) [bo v1 x2 A0]))
theorem Ka(ao:PT)(x0:Int)(h:AI ao x0):gq 54 [.int .u64 (.var 0)] [] ⟨[x0],[],[],[],[],[],[],[]⟩ ao:=
 qX (C:=Fm.cx) _ _ ⟨0,0,1,0,0,0,0⟩ _ 0 1 Tryz.func54 (by kernel_rfl) h
def IC(ao:PT)(x0 x1:Int):Prop:=
 ∀b0 _:Nat,Cl 54 [.int .u64 x0] [] fun x hs _=> ∃(v0:V1) (x2:Int) (A0:Nat→Int),x=v0.v∧hs=[bo v0 x2 A0]∧
 aw (0≤x2) (
 aJ (0<x2) (
 cg (x2 - 1) ((
 nq (1+x2) (
 ∀_:V1,Cl 54 [.int .u64 x1] [] fun x hs _=> ∃(v2:V1) (x3:Int) (A1:Nat→Int),x=v2.v∧hs=[bo v2 x3 A1]∧
 aw (0≤x3) (
 aJ (0<x3) (
 cg (x3 - 1) ((
 aw (0<(1+x2)) (
 aw (0≤(1+x2)) (
 nq ((1+x2)+x3) (
 ∀v3:V1,ao (v3.v) [al b0 true ([.int .u64 x0,.int .u64 x1]),bo v3 ((1+x2)+x3) (ay (au (ay (fun _=>(ak .bC .u8 0 (ak .bC .u8 8 (ae .u8 (x2 - 1))))) 1 (ag x2) A0) 0 (ak .bC .u8 (ak .shl .u8 ((ay (fun _=>(ak .bC .u8 0 (ak .bC .u8 8 (ae .u8 (x2 - 1))))) 1 (ag x2) A0) 0) 4) (ak .bC .u8 8 (ae .u8 (x3 - 1))))) (ag (1+x2)) (ag x3) A1)])))))) (
 aw (0<(1+x2)) (
 aw (0≤(1+x2)) (
 nq ((1+x2)+x3) (
 ∀v3:V1,ao (v3.v) [al b0 true ([.int .u64 x0,.int .u64 x1]),bo v3 ((1+x2)+x3) (ay (au (ay (fun _=>(ak .bC .u8 0 (ak .bC .u8 8 (ae .u8 (x2 - 1))))) 1 (ag x2) A0) 0 (ak .bC .u8 (ak .shl .u8 ((ay (fun _=>(ak .bC .u8 0 (ak .bC .u8 8 (ae .u8 (x2 - 1))))) 1 (ag x2) A0) 0) 4) (ae .u8 (ak .aM .u64 x1 7)))) (ag (1+x2)) (ag x3) A1)]))))))))) (
 nq (1+x2) (
 ∀_:V1,Cl 54 [.int .u64 x1] [] fun x hs _=> ∃(v2:V1) (x3:Int) (A1:Nat→Int),x=v2.v∧hs=[bo v2 x3 A1]∧
 aw (0≤x3) (
 aJ (0<x3) (
 cg (x3 - 1) ((
 aw (0<(1+x2)) (
 aw (0≤(1+x2)) (
 nq ((1+x2)+x3) (
 ∀v3:V1,ao (v3.v) [al b0 true ([.int .u64 x0,.int .u64 x1]),bo v3 ((1+x2)+x3) (ay (au (ay (fun _=>(ak .bC .u8 0 (ae .u8 (ak .aM .u64 x0 7)))) 1 (ag x2) A0) 0 (ak .bC .u8 (ak .shl .u8 ((ay (fun _=>(ak .bC .u8 0 (ae .u8 (ak .aM .u64 x0 7)))) 1 (ag x2) A0) 0) 4) (ak .bC .u8 8 (ae .u8 (x3 - 1))))) (ag (1+x2)) (ag x3) A1)])))))) (
 aw (0<(1+x2)) (
 aw (0≤(1+x2)) (
 nq ((1+x2)+x3) (
 ∀v3:V1,ao (v3.v) [al b0 true ([.int .u64 x0,.int .u64 x1]),bo v3 ((1+x2)+x3) (ay (au (ay (fun _=>(ak .bC .u8 0 (ae .u8 (ak .aM .u64 x0 7)))) 1 (ag x2) A0) 0 (ak .bC .u8 (ak .shl .u8 ((ay (fun _=>(ak .bC .u8 0 (ae .u8 (ak .aM .u64 x0 7)))) 1 (ag x2) A0) 0) 4) (ae .u8 (ak .aM .u64 x1 7)))) (ag (1+x2)) (ag x3) A1)]))))))))
theorem Qg(ao:PT)(x0 x1:Int)(h:IC ao x0 x1):gq 27 [.agg [.int .u64 (.var 0),.int .u64 (.var 1)]] [] ⟨[x0,x1],[],[],[],[],[],[],[]⟩ ao:=
 Mj (C:=Fm.cx) _ _ ⟨0,0,2,0,0,0,0⟩ _ 2 Tryz.func27 (by kernel_rfl) h
def Dp(ao:PT)(x0:Int)(A0:Nat→Int)(_:V1):Prop:=
 ∀_:Nat,aw (0≤x0) (
 aJ (x0=0) (
 ao (.tuple #[.agg #[.int .u64 0,.int .u64 0],.int .i64 0,.int .i64 9]) []) (
 ∀_:Nat,aw (0<x0) (
 aJ ((ak .shr .u8 (A0 0) 4)<8) (
 aJ ((ak .aM .u8 (A0 0) 15)<8) (
 ao (.tuple #[.agg #[.int .u64 (ae .u64 (ak .shr .u8 (A0 0) 4)),.int .u64 (ae .u64 (ak .aM .u8 (A0 0) 15))],.int .i64 1,.int .i64 0]) []) (
 cg (ae .u8 ((ak .aM .u8 (A0 0) 15) - 8)) ((
 cg (1+(ae .u8 ((ak .aM .u8 (A0 0) 15) - 8))) ((
 cg ((1+(ae .u8 ((ak .aM .u8 (A0 0) 15) - 8)))+1) ((
 aJ (x0<((1+(ae .u8 ((ak .aM .u8 (A0 0) 15) - 8)))+1)) (
 ao (.tuple #[.agg #[.int .u64 0,.int .u64 0],.int .i64 0,.int .i64 9]) []) (
 aw (1≤((1+(ae .u8 ((ak .aM .u8 (A0 0) 15) - 8)))+1)) (
 aw (((1+(ae .u8 ((ak .aM .u8 (A0 0) 15) - 8)))+1)≤x0) (
 aw (0≤(((1+(ae .u8 ((ak .aM .u8 (A0 0) 15) - 8)))+1) - 1)) (
 ∃(lG:Ext→Prop) (ph:Ext→Nat),(∃(x1:Int) (A1:Nat→Int),x1=0∧(∀j,j<2→A1 j=(ay (au (fun _=>0) 0 (ae .u64 (ak .shr .u8 (A0 0) 4))) 1 1 (fun _=>0)) j)∧lG ⟨[],[],[x1],[A1],[],[],[]⟩)∧
 ∀(x1:Int) (A1:Nat→Int),lG ⟨[],[],[x1],[A1],[],[],[]⟩→
 aJ (x1<(((1+(ae .u8 ((ak .aM .u8 (A0 0) 15) - 8)))+1) - 1)) (
 aw (1≤((1+(ae .u8 ((ak .aM .u8 (A0 0) 15) - 8)))+1)) (
 aw (((1+(ae .u8 ((ak .aM .u8 (A0 0) 15) - 8)))+1)≤x0) (
 aw (0≤x1) (
 aw (0≤(1+x1)) (
 aw ((1+x1)<x0) (
 cg (x1+1) ((
 ∃(dr:Int) (BR:Nat→Int),dr=(x1+1)∧(∀j,j<2→BR j=(au (ay (fun _=>0) 0 1 A1) 1 (ak .bC .u64 (ak .shl .u64 (A1 1) 8) (ae .u64 (A0 (ag (1+x1)))))) j)∧lG ⟨[],[],[dr],[BR],[],[],[]⟩∧ph ⟨[],[],[dr],[BR],[],[],[]⟩<ph ⟨[],[],[x1],[A1],[],[],[]⟩)))))))) (
 Cl 54 [.int .u64 (A1 1)] [] fun x hs _=> ∃(v1:V1) (x2:Int) (A2:Nat→Int),x=v1.v∧hs=[bo v1 x2 A2]∧
 aw (0≤x2) (
 cg (((1+(ae .u8 ((ak .aM .u8 (A0 0) 15) - 8)))+1) - 1) ((
 aJ (¬(x2=(((1+(ae .u8 ((ak .aM .u8 (A0 0) 15) - 8)))+1) - 1))) (
 ao (.tuple #[.agg #[.int .u64 0,.int .u64 0],.int .i64 0,.int .i64 9]) []) (
 ao (.tuple #[.agg #[.int .u64 (A1 0),.int .u64 (A1 1)],.int .i64 ((1+(ae .u8 ((ak .aM .u8 (A0 0) 15) - 8)))+1),.int .i64 0]) []))))))))))))))))) (
 cg (ae .u8 ((ak .shr .u8 (A0 0) 4) - 8)) ((
 cg (1+(ae .u8 ((ak .shr .u8 (A0 0) 4) - 8))) ((
 cg ((1+(ae .u8 ((ak .shr .u8 (A0 0) 4) - 8)))+1) ((
 aJ (x0<((1+(ae .u8 ((ak .shr .u8 (A0 0) 4) - 8)))+1)) (
 ao (.tuple #[.agg #[.int .u64 0,.int .u64 0],.int .i64 0,.int .i64 9]) []) (
 aw (1≤((1+(ae .u8 ((ak .shr .u8 (A0 0) 4) - 8)))+1)) (
 aw (((1+(ae .u8 ((ak .shr .u8 (A0 0) 4) - 8)))+1)≤x0) (
 aw (0≤(((1+(ae .u8 ((ak .shr .u8 (A0 0) 4) - 8)))+1) - 1)) (
 ∃(xA:Ext→Prop) (uj:Ext→Nat),(∃(x1:Int) (A1:Nat→Int),x1=0∧(∀j,j<2→A1 j=(fun _=>0) j)∧xA ⟨[],[],[x1],[A1],[],[],[]⟩)∧
 ∀(x1:Int) (A1:Nat→Int),xA ⟨[],[],[x1],[A1],[],[],[]⟩→
 aJ (x1<(((1+(ae .u8 ((ak .shr .u8 (A0 0) 4) - 8)))+1) - 1)) (
 aw (1≤((1+(ae .u8 ((ak .shr .u8 (A0 0) 4) - 8)))+1)) (
 aw (((1+(ae .u8 ((ak .shr .u8 (A0 0) 4) - 8)))+1)≤x0) (
 aw (0≤x1) (
 aw (0≤(1+x1)) (
 aw ((1+x1)<x0) (
 cg (x1+1) ((
 ∃(dr:Int) (BR:Nat→Int),dr=(x1+1)∧(∀j,j<2→BR j=(ay (au (fun _=>0) 0 (ak .bC .u64 (ak .shl .u64 (A1 0) 8) (ae .u64 (A0 (ag (1+x1)))))) 1 1 (aI A1 1)) j)∧xA ⟨[],[],[dr],[BR],[],[],[]⟩∧uj ⟨[],[],[dr],[BR],[],[],[]⟩<uj ⟨[],[],[x1],[A1],[],[],[]⟩)))))))) (
 Cl 54 [.int .u64 (A1 0)] [] fun x hs _=> ∃(v1:V1) (x2:Int) (A2:Nat→Int),x=v1.v∧hs=[bo v1 x2 A2]∧
 aw (0≤x2) (
 cg (((1+(ae .u8 ((ak .shr .u8 (A0 0) 4) - 8)))+1) - 1) ((
 aJ (¬(x2=(((1+(ae .u8 ((ak .shr .u8 (A0 0) 4) - 8)))+1) - 1))) (
 ao (.tuple #[.agg #[.int .u64 0,.int .u64 0],.int .i64 0,.int .i64 9]) []) (
 aJ ((ak .aM .u8 (A0 0) 15)<8) (
 ao (.tuple #[.agg #[.int .u64 (A1 0),.int .u64 (ae .u64 (ak .aM .u8 (A0 0) 15))],.int .i64 ((1+(ae .u8 ((ak .shr .u8 (A0 0) 4) - 8)))+1),.int .i64 0]) []) (
 cg (ae .u8 ((ak .aM .u8 (A0 0) 15) - 8)) ((
 cg (((1+(ae .u8 ((ak .shr .u8 (A0 0) 4) - 8)))+1)+(ae .u8 ((ak .aM .u8 (A0 0) 15) - 8))) ((
 cg ((((1+(ae .u8 ((ak .shr .u8 (A0 0) 4) - 8)))+1)+(ae .u8 ((ak .aM .u8 (A0 0) 15) - 8)))+1) ((
 aw (0≤x0) (
 aJ (x0<((((1+(ae .u8 ((ak .shr .u8 (A0 0) 4) - 8)))+1)+(ae .u8 ((ak .aM .u8 (A0 0) 15) - 8)))+1)) (
 ao (.tuple #[.agg #[.int .u64 0,.int .u64 0],.int .i64 0,.int .i64 9]) []) (
 aw (0≤((1+(ae .u8 ((ak .shr .u8 (A0 0) 4) - 8)))+1)) (
 aw (((1+(ae .u8 ((ak .shr .u8 (A0 0) 4) - 8)))+1)≤((((1+(ae .u8 ((ak .shr .u8 (A0 0) 4) - 8)))+1)+(ae .u8 ((ak .aM .u8 (A0 0) 15) - 8)))+1)) (
 aw (((((1+(ae .u8 ((ak .shr .u8 (A0 0) 4) - 8)))+1)+(ae .u8 ((ak .aM .u8 (A0 0) 15) - 8)))+1)≤x0) (
 aw (0≤(((((1+(ae .u8 ((ak .shr .u8 (A0 0) 4) - 8)))+1)+(ae .u8 ((ak .aM .u8 (A0 0) 15) - 8)))+1) - ((1+(ae .u8 ((ak .shr .u8 (A0 0) 4) - 8)))+1))) (
 ∃(jg:Ext→Prop) (mr:Ext→Nat),(∃(x3:Int) (A3:Nat→Int),x3=0∧(∀j,j<2→A3 j=A1 j)∧jg ⟨[],[],[x3],[A3],[],[],[]⟩)∧
 ∀(x3:Int) (A3:Nat→Int),jg ⟨[],[],[x3],[A3],[],[],[]⟩→
 aJ (x3<(((((1+(ae .u8 ((ak .shr .u8 (A0 0) 4) - 8)))+1)+(ae .u8 ((ak .aM .u8 (A0 0) 15) - 8)))+1) - ((1+(ae .u8 ((ak .shr .u8 (A0 0) 4) - 8)))+1))) (
 aw (0≤((1+(ae .u8 ((ak .shr .u8 (A0 0) 4) - 8)))+1)) (
 aw (((1+(ae .u8 ((ak .shr .u8 (A0 0) 4) - 8)))+1)≤((((1+(ae .u8 ((ak .shr .u8 (A0 0) 4) - 8)))+1)+(ae .u8 ((ak .aM .u8 (A0 0) 15) - 8)))+1)) (
 aw (((((1+(ae .u8 ((ak .shr .u8 (A0 0) 4) - 8)))+1)+(ae .u8 ((ak .aM .u8 (A0 0) 15) - 8)))+1)≤x0) (
 aw (0≤x3) (
 aw (0≤(((1+(ae .u8 ((ak .shr .u8 (A0 0) 4) - 8)))+1)+x3)) (
 aw ((((1+(ae .u8 ((ak .shr .u8 (A0 0) 4) - 8)))+1)+x3)<x0) (
 cg (x3+1) ((
 ∃(dJ:Int) (jf:Nat→Int),dJ=(x3+1)∧(∀j,j<2→jf j=(au (ay (fun _=>0) 0 1 A3) 1 (ak .bC .u64 (ak .shl .u64 (A3 1) 8) (ae .u64 (A0 (ag (((1+(ae .u8 ((ak .shr .u8 (A0 0) 4) - 8)))+1)+x3)))))) j)∧jg ⟨[],[],[dJ],[jf],[],[],[]⟩∧mr ⟨[],[],[dJ],[jf],[],[],[]⟩<mr ⟨[],[],[x3],[A3],[],[],[]⟩))))))))) (
 Cl 54 [.int .u64 (A3 1)] [] fun x hs _=> ∃(v2:V1) (x4:Int) (A4:Nat→Int),x=v2.v∧hs=[bo v2 x4 A4]∧
 aw (0≤x4) (
 cg (((((1+(ae .u8 ((ak .shr .u8 (A0 0) 4) - 8)))+1)+(ae .u8 ((ak .aM .u8 (A0 0) 15) - 8)))+1) - ((1+(ae .u8 ((ak .shr .u8 (A0 0) 4) - 8)))+1)) ((
 aJ (¬(x4=(((((1+(ae .u8 ((ak .shr .u8 (A0 0) 4) - 8)))+1)+(ae .u8 ((ak .aM .u8 (A0 0) 15) - 8)))+1) - ((1+(ae .u8 ((ak .shr .u8 (A0 0) 4) - 8)))+1)))) (
 ao (.tuple #[.agg #[.int .u64 0,.int .u64 0],.int .i64 0,.int .i64 9]) []) (
 ao (.tuple #[.agg #[.int .u64 (A3 0),.int .u64 (A3 1)],.int .i64 ((((1+(ae .u8 ((ak .shr .u8 (A0 0) 4) - 8)))+1)+(ae .u8 ((ak .aM .u8 (A0 0) 15) - 8)))+1),.int .i64 0]) [])))))))))))))))))))))))))))))))))))))
theorem Mv(ao:PT)(x0:Int)(A0:Nat→Int)(v0:V1)(h:Dp ao x0 A0 v0):gq 34 [.vv 0] [.bK false 0 5 1 (.var 0) [⟨.int .u8,1,.aN 0⟩]] ⟨[x0],[A0],[],[],[v0],[],[],[]⟩ ao:=
 Uh (C:=Fm.cx) _ _ ⟨0,1,1,1,0,0,0⟩ _ Tryz.func34 (by kernel_rfl) h
def xB(ao:PT)(x0:Int):Prop:=
 ∀_ _ _:Nat,aJ (((au (au (au (au (au (fun _=>0) 20 1) 72 1) 104 1) 272 1) 336 1) (ag ((bG ((ajw 1).map (fun _=>x0)):Nat):Int)))≠0) (
 ao (.tuple #[.agg #[.int .u8 ((au (au (au (au (au (fun _=>0) 20 1) 72 1) 104 1) 272 1) 336 2) (ag ((bG ((ajw 1).map (fun _=>x0)):Nat):Int))),.int .i64 ((au (au (au (au (au (fun _=>0) 20 48) 72 48) 104 48) 272 16) 336 32) (ag ((bG ((ajw 1).map (fun _=>x0)):Nat):Int))),.int .i64 ((au (au (au (au (au (fun _=>0) 20 16) 72 16) 104 16) 272 16) 336 32) (ag ((bG ((ajw 1).map (fun _=>x0)):Nat):Int))),.int .i64 ((au (au (au (au (au (fun _=>0) 20 10) 72 8) 104 4) 272 16) 336 16) (ag ((bG ((ajw 1).map (fun _=>x0)):Nat):Int))),.int .i64 ((au (au (au (au (au (fun _=>0) 20 32) 72 32) 104 32) 272 32) 336 64) (ag ((bG ((ajw 1).map (fun _=>x0)):Nat):Int)))],.int .i64 0]) []) (
 ao (.tuple #[.agg #[.int .u8 0,.int .i64 0,.int .i64 0,.int .i64 0,.int .i64 0],.int .i64 130]) [])
theorem GI(ao:PT)(x0:Int)(h:xB ao x0):gq 53 [.int .u16 (.var 0)] [] ⟨[x0],[],[],[],[],[],[],[]⟩ ao:=
 Uh (C:=Fm.cx) _ _ ⟨0,0,1,0,0,0,0⟩ _ Tryz.func53 (by kernel_rfl) h
def AJ(ao:PT)(_ _ x2:Int)(_ A1:Nat→Int)(_:V1):Prop:=
 ∀_ _ _:Nat,ao (.agg (aiL (aj .u8 4 A1) ([.int .u8 (ak .aB .u8 (A1 4) (ae .u8 (ak .shr .u64 x2 56))),.int .u8 (ak .aB .u8 (A1 5) (ae .u8 (ak .shr .u64 x2 48))),.int .u8 (ak .aB .u8 (A1 6) (ae .u8 (ak .shr .u64 x2 40))),.int .u8 (ak .aB .u8 (A1 7) (ae .u8 (ak .shr .u64 x2 32))),.int .u8 (ak .aB .u8 (A1 8) (ae .u8 (ak .shr .u64 x2 24))),.int .u8 (ak .aB .u8 (A1 9) (ae .u8 (ak .shr .u64 x2 16))),.int .u8 (ak .aB .u8 (A1 10) (ae .u8 (ak .shr .u64 x2 8))),.int .u8 (ak .aB .u8 (A1 11) (ae .u8 (ak .shr .u64 x2 0)))])).toArray) []
theorem Kb(ao:PT)(x0 x1 x2:Int)(A0 A1:Nat→Int)(v0:V1)(h:AJ ao x0 x1 x2 A0 A1 v0):gq 57 [.agg [.int .u16 (.var 0),.int .u64 (.var 1),.vv 0,.b_ .u8 12 (.aN 1)],.int .u64 (.var 2)] [] ⟨[x0,x1,x2],[A0,A1],[],[],[v0],[],[],[]⟩ ao:=
 Uh (C:=Fm.cx) _ _ ⟨0,1,3,2,0,0,0⟩ _ Tryz.func57 (by kernel_rfl) h
def xC(ao:PT)(x0 x1:Int)(A0 A1:Nat→Int)(v0 v1:V1)(b0:Nat):Prop:=
 aw (0≤x0) (
 cg x0 ((
 aJ (x0<0) (
 False) (
 aw (0≤x1) (
 cg (x0+x1) ((
 aJ ((x0+x1)<0) (
 False) (
 aJ (0<(x0+x1)) (
 aw (0≤(x0+x1)) (
 nq (x0+x1) (
 ∀_:V1,nq x0 (
 ∀_ v4:V1,ao (v4.v) [al b0 true ([v0.v,v1.v]),bo v4 (x0+x1) (ay A0 (ag x0) (ag x1) A1)])))) (
 nq x0 (
 ∀_:V1,nq (x0+x1) (
 ∀v3:V1,ao (v3.v) [al b0 true ([v0.v,v1.v]),bo v3 (x0+x1) (ay A0 (ag x0) (ag x1) A1)])))))))))))
theorem GJ(ao:PT)(x0 x1:Int)(A0 A1:Nat→Int)(v0 v1:V1)(b0:Nat)(h:xC ao x0 x1 A0 A1 v0 v1 b0):gq 29 [.sl 0 (.lit 0) 1 (.lit 2) (.lit 2)] [.row 0 true [.vv 0,.vv 1],.bK false 0 5 1 (.var 0) [⟨.int .u8,1,.aN 0⟩],.bK false 1 5 1 (.var 1) [⟨.int .u8,1,.aN 1⟩]] ⟨[x0,x1],[A0,A1],[],[b0],[v0,v1],[],[],[]⟩ ao:=
 qX (C:=Fm.cx) _ _ ⟨1,2,2,2,0,0,0⟩ _ 1 1 Tryz.func29 (by kernel_rfl) h
def Dq(ao:PT)(x0 x1 x2 x3 x4 x5:Int)(A0 A1 A2 A3:Nat→Int)(v0 v1 v2:V1):Prop:=
 ∀b0 b1 b2:Nat,Cl 53 [.int .u16 x0] [] fun x hs _=> ∃x6 x7 x8 x9 bP fm:Int,x= .tuple #[.agg #[.int .u8 x6,.int .i64 x7,.int .i64 x8,.int .i64 x9,.int .i64 bP],.int .i64 fm]∧hs=[]∧
 ∀b3:Nat,aJ (¬(fm=0)) (
 ∀b4:Nat,ao (.tuple #[.slice none 0 0,.int .i64 fm]) [bi v0 x3 A0,bi v1 x4 A2,bi v2 x5 A3,al b0 true (.int .u16 x0::(.int .u64 x1::(v0.v::(aiL (aj .u8 12 A1) ([]))))),al b1 true (.int .u16 x0::(.int .u64 x1::(v0.v::(aiL (aj .u8 12 A1) ([]))))),al b2 true ([.int .u8 x6,.int .i64 x7,.int .i64 x8,.int .i64 x9,.int .i64 bP]),al b3 true ([.int .u8 x6,.int .i64 x7,.int .i64 x8,.int .i64 x9,.int .i64 bP]),al b4 true ([.int .u8 x6,.int .i64 x7,.int .i64 x8,.int .i64 x9,.int .i64 bP])]) (
 aw (0≤x3) (
 aJ (¬(x3=x7)) (
 ∀b4:Nat,ao (.tuple #[.slice none 0 0,.int .i64 2]) [bi v0 x3 A0,bi v1 x4 A2,bi v2 x5 A3,al b0 true (.int .u16 x0::(.int .u64 x1::(v0.v::(aiL (aj .u8 12 A1) ([]))))),al b1 true (.int .u16 x0::(.int .u64 x1::(v0.v::(aiL (aj .u8 12 A1) ([]))))),al b2 true ([.int .u8 x6,.int .i64 x7,.int .i64 x8,.int .i64 x9,.int .i64 bP]),al b3 true ([.int .u8 x6,.int .i64 x7,.int .i64 x8,.int .i64 x9,.int .i64 bP]),al b4 true ([.int .u8 x6,.int .i64 x7,.int .i64 x8,.int .i64 x9,.int .i64 bP])]) (
 aw (0≤x4) (
 aJ (1024<x4) (
 ∀b4:Nat,ao (.tuple #[.slice none 0 0,.int .i64 3]) [bi v0 x3 A0,bi v1 x4 A2,bi v2 x5 A3,al b0 true (.int .u16 x0::(.int .u64 x1::(v0.v::(aiL (aj .u8 12 A1) ([]))))),al b1 true (.int .u16 x0::(.int .u64 x1::(v0.v::(aiL (aj .u8 12 A1) ([]))))),al b2 true ([.int .u8 x6,.int .i64 x7,.int .i64 x8,.int .i64 x9,.int .i64 bP]),al b3 true ([.int .u8 x6,.int .i64 x7,.int .i64 x8,.int .i64 x9,.int .i64 bP]),al b4 true ([.int .u8 x6,.int .i64 x7,.int .i64 x8,.int .i64 x9,.int .i64 bP])]) (
 ∀b4:Nat,aw (0≤x5) (
 aJ (65536<x5) (
 ao (.tuple #[.slice none 0 0,.int .i64 3]) [bi v0 x3 A0,bi v1 x4 A2,bi v2 x5 A3,al b0 true (.int .u16 x0::(.int .u64 x1::(v0.v::(aiL (aj .u8 12 A1) ([]))))),al b1 true (.int .u16 x0::(.int .u64 x1::(v0.v::(aiL (aj .u8 12 A1) ([]))))),al b2 true ([.int .u8 x6,.int .i64 x7,.int .i64 x8,.int .i64 x9,.int .i64 bP]),al b3 true ([.int .u8 x6,.int .i64 x7,.int .i64 x8,.int .i64 x9,.int .i64 bP]),al b4 true ([.int .u8 x6,.int .i64 x7,.int .i64 x8,.int .i64 x9,.int .i64 bP])]) (
 Cl 27 [.agg #[.int .u64 x1,.int .u64 x2]] [] fun x hs _=> ∃(v3:V1) (c6:Int) (A4:Nat→Int),x=v3.v∧hs=[bo v3 c6 A4]∧
 ∀_ _ _:Nat,aJ (x7=x8) (
 ∀b8:Nat,Cl 29 [.slice (some ⟨b8,0,none⟩) 2 2] [al b8 true ([v3.v,v1.v]),bo v3 c6 A4,bi v1 x4 A2] fun x hs l=> ∃(v4:V1) (cZ:Int) (A5:Nat→Int),x=v4.v∧hs=l++[bo v4 cZ A5]∧
 Cl 57 [.agg (.int .u16 x0::(.int .u64 x1::(v0.v::(aiL (aj .u8 12 A1) ([]))))).toArray,.int .u64 x2] [] fun x hs _=> ∃A6:(Nat→Int),x= .agg (aiL (aj .u8 12 A6) ([])).toArray∧hs=[]∧
 Cl 56 [v0.v,.agg (aiL (aj .u8 12 A6) ([])).toArray,v4.v,v2.v] [bi v0 x3 A0,bo v4 cZ A5,bi v2 x5 A3] fun x hs l=> ∃(v5:V1) (rk mf:Int) (A7:Nat→Int),x= .tuple #[v5.v,.int .i64 mf]∧hs=l++[bo v5 rk A7]∧
 aw (0≤rk) (
 aw (0≤c6) (
 aw (0≤rk) (
 nq (c6+rk) (
 ∀v6:V1,ao (.tuple #[v6.v,.int .i64 0]) [bi v0 x3 A0,bi v1 x4 A2,bi v2 x5 A3,al b0 true (.int .u16 x0::(.int .u64 x1::(v0.v::(aiL (aj .u8 12 A1) ([]))))),al b1 true (.int .u16 x0::(.int .u64 x1::(v0.v::(aiL (aj .u8 12 A1) ([]))))),al b2 true ([.int .u8 x6,.int .i64 x7,.int .i64 x8,.int .i64 x9,.int .i64 bP]),al b3 true ([.int .u8 x6,.int .i64 x7,.int .i64 x8,.int .i64 x9,.int .i64 bP]),al b4 true ([.int .u8 x6,.int .i64 x7,.int .i64 x8,.int .i64 x9,.int .i64 bP]),bo v6 (c6+rk) (ay A4 (ag c6) (ag rk) A7)]))))) (
 aw (0≤x8) (
 aw (x8≤x3) (
 Cl 60 [(aC 1 v0.v 0 (ag x8) none)] [bi v0 x3 A0] fun x hs l=> ∃(b8:Nat) (v4:V1) (cZ:Int) (A5 A6:Nat→Int),x= .tuple #[.pointer (some ⟨b8,0,none⟩),.int .i64 0]∧hs=l++[al b8 true (aiL (aj .u8 256 A5) ([v4.v])),aG true 177 4 v4.v (ag cZ) (aW (ag cZ) [bd .u8 4 A6])]∧
 ∀_ _ _ S6:Nat,Cl 29 [.slice (some ⟨S6,0,none⟩) 2 2] [al S6 true ([v3.v,v1.v]),bo v3 c6 A4,bi v1 x4 A2] fun x hs l=> ∃(v5:V1) (rk:Int) (A7:Nat→Int),x=v5.v∧hs=l++[bo v5 rk A7]∧
 ∀_:Nat,Cl 57 [.agg (.int .u16 x0::(.int .u64 x1::(v0.v::(aiL (aj .u8 12 A1) ([]))))).toArray,.int .u64 x2] [] fun x hs _=> ∃A8:(Nat→Int),x= .agg (aiL (aj .u8 12 A8) ([])).toArray∧hs=[]∧
 ∀_ Ml:Nat,Cl 62 [.pointer (some ⟨b8,0,none⟩),.agg (aiL (aj .u8 16 (ay (fun _=>0) 0 12 A8)) ([])).toArray,.slice (some ⟨Ml,0,none⟩) 1 1] [al b8 true (aiL (aj .u8 256 A5) ([v4.v])),aG true 177 4 v4.v (ag cZ) (aW (ag cZ) [bd .u8 4 A6]),al Ml true ([v2.v]),bi v2 x5 A3] fun x hs l=> ∃(v6:V1) (mf:Int) (A9:Nat→Int),x= .tuple #[v6.v,.int .i64 0]∧hs=l++[bo v6 mf A9]∧
 Cl 57 [.agg (.int .u16 x0::(.int .u64 x1::(v0.v::(aiL (aj .u8 12 A1) ([]))))).toArray,.int .u64 x2] [] fun x hs _=> ∃vm:(Nat→Int),x= .agg (aiL (aj .u8 12 vm) ([])).toArray∧hs=[]∧
 ∀Dn:Nat,aw (0≤rk) (
 aw (0≤mf) (
 Cl 65 [.int .i64 rk] [] fun x hs _=> ∃(v7:V1) (Gs:Nat→Int),x=v7.v∧hs=[bn true v7 8 Gs]∧
 Cl 65 [.int .i64 mf] [] fun x hs _=> ∃(v8:V1) (m9:Nat→Int),x=v8.v∧hs=[bn true v8 8 m9]∧
 Cl 65 [.int .i64 x9] [] fun x hs _=> ∃(v9:V1) (qt:Nat→Int),x=v9.v∧hs=[bn true v9 8 qt]∧
 ∀S7:Nat,Cl 64 [.int .u8 x6,(aC 1 v0.v (ag x8) (ag x3) none),.slice (some ⟨S7,0,none⟩) 6 6] [bi v0 x3 A0,al S7 true ([v7.v,v8.v,v9.v,.slice (some ⟨Dn,0,none⟩) 12 12,v5.v,v6.v]),bn true v7 8 Gs,bn true v8 8 m9,bn true v9 8 qt,al Dn true (aiL (aj .u8 12 vm) ([])),bo v5 rk A7,bo v6 mf A9] fun x hs l=> ∃(v10:V1) (ss:Int) (uc:Nat→Int),x=v10.v∧hs=l++[bo v10 ss uc]∧
 aw (0≤x9) (
 aw (x9≤ss) (
 nq (mf+x9) (
 ∀_:V1,aw (0≤(mf+x9)) (
 aw (0≤c6) (
 aw (0≤(mf+x9)) (
 nq (c6+(mf+x9)) (
 ∀m_:V1,ao (.tuple #[m_.v,.int .i64 0]) [bi v0 x3 A0,bi v1 x4 A2,bi v2 x5 A3,al b0 true (.int .u16 x0::(.int .u64 x1::(v0.v::(aiL (aj .u8 12 A1) ([]))))),al b1 true (.int .u16 x0::(.int .u64 x1::(v0.v::(aiL (aj .u8 12 A1) ([]))))),al b2 true ([.int .u8 x6,.int .i64 x7,.int .i64 x8,.int .i64 x9,.int .i64 bP]),al b3 true ([.int .u8 x6,.int .i64 x7,.int .i64 x8,.int .i64 x9,.int .i64 bP]),al b4 true ([.int .u8 x6,.int .i64 x7,.int .i64 x8,.int .i64 x9,.int .i64 bP]),bo m_ (c6+(mf+x9)) (ay A4 (ag c6) (ag (mf+x9)) (ay A9 (ag mf) (ag x9) uc))])))))))))))))))))))
theorem Mw(ao:PT)(x0 x1 x2 x3 x4 x5:Int)(A0 A1 A2 A3:Nat→Int)(v0 v1 v2:V1)(h:Dq ao x0 x1 x2 x3 x4 x5 A0 A1 A2 A3 v0 v1 v2):gq 8 [.agg [.int .u16 (.var 0),.int .u64 (.var 1),.vv 0,.b_ .u8 12 (.aN 1)],.int .u64 (.var 2),.vv 1,.vv 2] [.bK false 0 5 1 (.var 3) [⟨.int .u8,1,.aN 0⟩],.bK false 1 5 1 (.var 4) [⟨.int .u8,1,.aN 2⟩],.bK false 2 5 1 (.var 5) [⟨.int .u8,1,.aN 3⟩]] ⟨[x0,x1,x2,x3,x4,x5],[A0,A1,A2,A3],[],[],[v0,v1,v2],[],[],[]⟩ ao:=
 Mj (C:=Fm.cx) _ _ ⟨0,3,6,4,0,0,0⟩ _ 9 Tryz.func8 (by kernel_rfl) h
def Dr(ao:PT)(x0 x1 x2 x3 x4:Int)(A0 A1 A2 A3:Nat→Int)(v0 v1 v2:V1):Prop:=
 ∀_ _ _:Nat,Cl 53 [.int .u16 x0] [] fun x hs _=> ∃x5 x6 x7 x8 x9 bP:Int,x= .tuple #[.agg #[.int .u8 x5,.int .i64 x6,.int .i64 x7,.int .i64 x8,.int .i64 x9],.int .i64 bP]∧hs=[]∧
 ∀_:Nat,aJ (¬(bP=0)) (
 ∀b4:Nat,ao (.tuple #[.slice none 0 0,.int .u64 0,.int .i64 bP]) [al b4 true ([.int .u8 x5,.int .i64 x6,.int .i64 x7,.int .i64 x8,.int .i64 x9])]) (
 aw (0≤x2) (
 aJ (¬(x2=x6)) (
 ∀b4:Nat,ao (.tuple #[.slice none 0 0,.int .u64 0,.int .i64 2]) [al b4 true ([.int .u8 x5,.int .i64 x6,.int .i64 x7,.int .i64 x8,.int .i64 x9])]) (
 aw (0≤x3) (
 aJ (1024<x3) (
 ∀b4:Nat,ao (.tuple #[.slice none 0 0,.int .u64 0,.int .i64 3]) [al b4 true ([.int .u8 x5,.int .i64 x6,.int .i64 x7,.int .i64 x8,.int .i64 x9])]) (
 ∀_:Nat,Cl 34 [v2.v] [bi v2 x4 A3] fun x hs l=> ∃fm c6 cZ rk:Int,x= .tuple #[.agg #[.int .u64 fm,.int .u64 c6],.int .i64 cZ,.int .i64 rk]∧hs=l∧
 ∀b5:Nat,aJ (¬(rk=0)) (
 ao (.tuple #[.slice none 0 0,.int .u64 0,.int .i64 rk]) [al b5 true ([.int .u64 fm,.int .u64 c6])]) (
 aJ (¬(fm=x1)) (
 ao (.tuple #[.slice none 0 0,.int .u64 0,.int .i64 4]) [al b5 true ([.int .u64 fm,.int .u64 c6])]) (
 aw (0≤x4) (
 cg (x4 - cZ) ((
 cg (65536+x8) ((
 aJ ((65536+x8)<(x4 - cZ)) (
 ao (.tuple #[.slice none 0 0,.int .u64 0,.int .i64 3]) [al b5 true ([.int .u64 fm,.int .u64 c6])]) (
 aw (0≤cZ) (
 aw (cZ≤x4) (
 (∀_ _ _:Nat,aJ (x6=x7) (
 ∀b9:Nat,Cl 29 [.slice (some ⟨b9,0,none⟩) 2 2] [al b9 true ([(aC 1 v2.v 0 (ag cZ) none),v1.v]),bi v2 x4 A3,bi v1 x3 A2] fun x hs l=> ∃(v3:V1) (mf:Int) (A4:Nat→Int),x=v3.v∧hs=l++[bo v3 mf A4]∧
 Cl 57 [.agg (.int .u16 x0::(.int .u64 x1::(v0.v::(aiL (aj .u8 12 A1) ([]))))).toArray,.int .u64 c6] [] fun x hs _=> ∃A5:(Nat→Int),x= .agg (aiL (aj .u8 12 A5) ([])).toArray∧hs=[]∧
 Cl 59 [v0.v,.agg (aiL (aj .u8 12 A5) ([])).toArray,v3.v,(aC 1 v2.v (ag cZ) (ag x4) none)] [bi v0 x2 A0,bo v3 mf A4,bi v2 x4 A3] fun x hs l=> ∃(v4:V1) (ss uk:Int) (A6:Nat→Int),x= .tuple #[v4.v,.int .i64 uk]∧hs=l++[bo v4 ss A6]∧
 aJ (¬(uk=0)) (
 ao (.tuple #[.slice none 0 0,.int .u64 0,.int .i64 uk]) [bo v4 ss A6]) (
 ao (.tuple #[v4.v,.int .u64 c6,.int .i64 0]) [bo v4 ss A6])) (
 aw (0≤x7) (
 aw (x7≤x2) (
 Cl 60 [(aC 1 v0.v 0 (ag x7) none)] [bi v0 x2 A0] fun x hs l=> ∃(b9:Nat) (v3:V1) (mf:Int) (A4 A5:Nat→Int),x= .tuple #[.pointer (some ⟨b9,0,none⟩),.int .i64 0]∧hs=l++[al b9 true (aiL (aj .u8 256 A4) ([v3.v])),aG true 177 4 v3.v (ag mf) (aW (ag mf) [bd .u8 4 A5])]∧
 ∀_ _ _ Qe:Nat,Cl 29 [.slice (some ⟨Qe,0,none⟩) 2 2] [al Qe true ([(aC 1 v2.v 0 (ag cZ) none),v1.v]),bi v2 x4 A3,bi v1 x3 A2] fun x hs l=> ∃(v4:V1) (ss:Int) (A6:Nat→Int),x=v4.v∧hs=l++[bo v4 ss A6]∧
 aw (0≤(x4 - cZ)) (
 cg ((x4 - cZ) - x8) ((
 aw ((((x4 - cZ) - x8)<0)∨(0≤cZ)) (
 aw ((((x4 - cZ) - x8)<0)∨(cZ≤x4)) (
 aw ((((x4 - cZ) - x8)<0)∨(0≤((x4 - cZ) - x8))) (
 aw ((((x4 - cZ) - x8)<0)∨((cZ+((x4 - cZ) - x8))≤x4)) (
 aw ((((x4 - cZ) - x8)<0)∨(0≤cZ)) (
 aw ((((x4 - cZ) - x8)<0)∨(cZ≤x4)) (
 aw ((((x4 - cZ) - x8)<0)∨(0≤((x4 - cZ) - x8))) (
 aw ((((x4 - cZ) - x8)<0)∨(((x4 - cZ) - x8)≤(x4 - cZ))) (
 aw ((((x4 - cZ) - x8)<0)∨((cZ+(x4 - cZ))≤x4)) (
 aJ (¬(((x4 - cZ) - x8)<0)) (
 Cl 57 [.agg (.int .u16 x0::(.int .u64 x1::(v0.v::(aiL (aj .u8 12 A1) ([]))))).toArray,.int .u64 c6] [] fun x hs _=> ∃A7:(Nat→Int),x= .agg (aiL (aj .u8 12 A7) ([])).toArray∧hs=[]∧
 ∀Mk:Nat,aw (0≤ss) (
 aw (0≤((x4 - cZ) - x8)) (
 aw ((cZ+((x4 - cZ) - x8))≤x4) (
 aw (0≤((x4 - cZ) - x8)) (
 Cl 65 [.int .i64 ss] [] fun x hs _=> ∃(v5:V1) (A8:Nat→Int),x=v5.v∧hs=[bn true v5 8 A8]∧
 Cl 65 [.int .i64 ((x4 - cZ) - x8)] [] fun x hs _=> ∃(v6:V1) (A9:Nat→Int),x=v6.v∧hs=[bn true v6 8 A9]∧
 Cl 65 [.int .i64 x8] [] fun x hs _=> ∃(v7:V1) (vm:Nat→Int),x=v7.v∧hs=[bn true v7 8 vm]∧
 ∀Ml:Nat,Cl 64 [.int .u8 x5,(aC 1 v0.v (ag x7) (ag x2) none),.slice (some ⟨Ml,0,none⟩) 6 6] [bi v0 x2 A0,al Ml true ([v5.v,v6.v,v7.v,.slice (some ⟨Mk,0,none⟩) 12 12,v4.v,(aC 1 (aC 1 v2.v (ag cZ) (ag x4) none) 0 (ag ((x4 - cZ) - x8)) none)]),bn true v5 8 A8,bn true v6 8 A9,bn true v7 8 vm,al Mk true (aiL (aj .u8 12 A7) ([])),bo v4 ss A6,bi v2 x4 A3] fun x hs l=> ∃(v8:V1) (uk:Int) (Gs:Nat→Int),x=v8.v∧hs=l++[bo v8 uk Gs]∧
 aw (0≤x8) (
 aw (x8≤uk) (
 Cl 68 [(aC 1 v8.v 0 (ag x8) none),(if(!(decide (((x4 - cZ) - x8)<0)))then(aC 1 (aC 1 v2.v (ag cZ) (ag x4) none) (ag ((x4 - cZ) - x8)) (ag (x4 - cZ)) none)else undef)] [bo v8 uk Gs,bi v2 x4 A3] fun x hs l=> ∃q0:Bool,x= .bool q0∧hs=l∧
 aJ (¬(q0=true)) (
 ao (.tuple #[.slice none 0 0,.int .u64 0,.int .i64 140]) [bo v8 uk Gs]) (
 ∀_:Nat,Cl 57 [.agg (.int .u16 x0::(.int .u64 x1::(v0.v::(aiL (aj .u8 12 A1) ([]))))).toArray,.int .u64 c6] [] fun x hs _=> ∃m9:(Nat→Int),x= .agg (aiL (aj .u8 12 m9) ([])).toArray∧hs=[]∧
 ∀_ Mm:Nat,Cl 62 [.pointer (some ⟨b9,0,none⟩),.agg (aiL (aj .u8 16 (ay (fun _=>0) 0 12 m9)) ([])).toArray,.slice (some ⟨Mm,0,none⟩) 1 1] [al b9 true (aiL (aj .u8 256 A4) ([v3.v])),aG true 177 4 v3.v (ag mf) (aW (ag mf) [bd .u8 4 A5]),al Mm true ([(aC 1 (aC 1 v2.v (ag cZ) (ag x4) none) 0 (ag ((x4 - cZ) - x8)) none)]),bi v2 x4 A3] fun x hs l=> ∃(v9:V1) (De:Int) (qt:Nat→Int),x= .tuple #[v9.v,.int .i64 0]∧hs=l++[bo v9 De qt]∧
 ao (.tuple #[v9.v,.int .u64 c6,.int .i64 0]) [bo v9 De qt])))))))) (
 ao (.tuple #[.slice none 0 0,.int .u64 0,.int .i64 140]) [bo v4 ss A6])))))))))))))))))∧
 (∀b6 _ _ _:Nat,aJ (x6=x7) (
 Cl 29 [.slice (some ⟨b6,0,none⟩) 2 2] [al b6 true ([(aC 1 v2.v 0 (ag cZ) none),v1.v]),bi v2 x4 A3,bi v1 x3 A2] fun x hs l=> ∃(v3:V1) (mf:Int) (A4:Nat→Int),x=v3.v∧hs=l++[bo v3 mf A4]∧
 Cl 57 [.agg (.int .u16 x0::(.int .u64 x1::(v0.v::(aiL (aj .u8 12 A1) ([]))))).toArray,.int .u64 c6] [] fun x hs _=> ∃A5:(Nat→Int),x= .agg (aiL (aj .u8 12 A5) ([])).toArray∧hs=[]∧
 Cl 59 [v0.v,.agg (aiL (aj .u8 12 A5) ([])).toArray,v3.v,(aC 1 v2.v (ag cZ) (ag x4) none)] [bi v0 x2 A0,bo v3 mf A4,bi v2 x4 A3] fun x hs l=> ∃(v4:V1) (ss uk:Int) (A6:Nat→Int),x= .tuple #[v4.v,.int .i64 uk]∧hs=l++[bo v4 ss A6]∧
 aJ (¬(uk=0)) (
 ao (.tuple #[.slice none 0 0,.int .u64 0,.int .i64 uk]) [bo v4 ss A6]) (
 ao (.tuple #[v4.v,.int .u64 c6,.int .i64 0]) [bo v4 ss A6])) (
 aw (0≤x7) (
 aw (x7≤x2) (
 Cl 60 [(aC 1 v0.v 0 (ag x7) none)] [bi v0 x2 A0] fun x hs l=> ∃(Qd:Nat) (v3:V1) (mf:Int) (A4 A5:Nat→Int),x= .tuple #[.pointer (some ⟨Qd,0,none⟩),.int .i64 0]∧hs=l++[al Qd true (aiL (aj .u8 256 A4) ([v3.v])),aG true 177 4 v3.v (ag mf) (aW (ag mf) [bd .u8 4 A5])]∧
 ∀_ _ _:Nat,Cl 29 [.slice (some ⟨b6,0,none⟩) 2 2] [al b6 true ([(aC 1 v2.v 0 (ag cZ) none),v1.v]),bi v2 x4 A3,bi v1 x3 A2] fun x hs l=> ∃(v4:V1) (ss:Int) (A6:Nat→Int),x=v4.v∧hs=l++[bo v4 ss A6]∧
 aw (0≤(x4 - cZ)) (
 cg ((x4 - cZ) - x8) ((
 aw ((((x4 - cZ) - x8)<0)∨(0≤cZ)) (
 aw ((((x4 - cZ) - x8)<0)∨(cZ≤x4)) (
 aw ((((x4 - cZ) - x8)<0)∨(0≤((x4 - cZ) - x8))) (
 aw ((((x4 - cZ) - x8)<0)∨((cZ+((x4 - cZ) - x8))≤x4)) (
 aw ((((x4 - cZ) - x8)<0)∨(0≤cZ)) (
 aw ((((x4 - cZ) - x8)<0)∨(cZ≤x4)) (
 aw ((((x4 - cZ) - x8)<0)∨(0≤((x4 - cZ) - x8))) (
 aw ((((x4 - cZ) - x8)<0)∨(((x4 - cZ) - x8)≤(x4 - cZ))) (
 aw ((((x4 - cZ) - x8)<0)∨((cZ+(x4 - cZ))≤x4)) (
 aJ (¬(((x4 - cZ) - x8)<0)) (
 Cl 57 [.agg (.int .u16 x0::(.int .u64 x1::(v0.v::(aiL (aj .u8 12 A1) ([]))))).toArray,.int .u64 c6] [] fun x hs _=> ∃A7:(Nat→Int),x= .agg (aiL (aj .u8 12 A7) ([])).toArray∧hs=[]∧
 ∀Mk:Nat,aw (0≤ss) (
 aw (0≤((x4 - cZ) - x8)) (
 aw ((cZ+((x4 - cZ) - x8))≤x4) (
 aw (0≤((x4 - cZ) - x8)) (
 Cl 65 [.int .i64 ss] [] fun x hs _=> ∃(v5:V1) (A8:Nat→Int),x=v5.v∧hs=[bn true v5 8 A8]∧
 Cl 65 [.int .i64 ((x4 - cZ) - x8)] [] fun x hs _=> ∃(v6:V1) (A9:Nat→Int),x=v6.v∧hs=[bn true v6 8 A9]∧
 Cl 65 [.int .i64 x8] [] fun x hs _=> ∃(v7:V1) (vm:Nat→Int),x=v7.v∧hs=[bn true v7 8 vm]∧
 ∀Ml:Nat,Cl 64 [.int .u8 x5,(aC 1 v0.v (ag x7) (ag x2) none),.slice (some ⟨Ml,0,none⟩) 6 6] [bi v0 x2 A0,al Ml true ([v5.v,v6.v,v7.v,.slice (some ⟨Mk,0,none⟩) 12 12,v4.v,(aC 1 (aC 1 v2.v (ag cZ) (ag x4) none) 0 (ag ((x4 - cZ) - x8)) none)]),bn true v5 8 A8,bn true v6 8 A9,bn true v7 8 vm,al Mk true (aiL (aj .u8 12 A7) ([])),bo v4 ss A6,bi v2 x4 A3] fun x hs l=> ∃(v8:V1) (uk:Int) (Gs:Nat→Int),x=v8.v∧hs=l++[bo v8 uk Gs]∧
 aw (0≤x8) (
 aw (x8≤uk) (
 Cl 68 [(aC 1 v8.v 0 (ag x8) none),(if(!(decide (((x4 - cZ) - x8)<0)))then(aC 1 (aC 1 v2.v (ag cZ) (ag x4) none) (ag ((x4 - cZ) - x8)) (ag (x4 - cZ)) none)else undef)] [bo v8 uk Gs,bi v2 x4 A3] fun x hs l=> ∃q0:Bool,x= .bool q0∧hs=l∧
 aJ (¬(q0=true)) (
 ao (.tuple #[.slice none 0 0,.int .u64 0,.int .i64 140]) [bo v8 uk Gs]) (
 ∀_:Nat,Cl 57 [.agg (.int .u16 x0::(.int .u64 x1::(v0.v::(aiL (aj .u8 12 A1) ([]))))).toArray,.int .u64 c6] [] fun x hs _=> ∃m9:(Nat→Int),x= .agg (aiL (aj .u8 12 m9) ([])).toArray∧hs=[]∧
 ∀_ Mm:Nat,Cl 62 [.pointer (some ⟨Qd,0,none⟩),.agg (aiL (aj .u8 16 (ay (fun _=>0) 0 12 m9)) ([])).toArray,.slice (some ⟨Mm,0,none⟩) 1 1] [al Qd true (aiL (aj .u8 256 A4) ([v3.v])),aG true 177 4 v3.v (ag mf) (aW (ag mf) [bd .u8 4 A5]),al Mm true ([(aC 1 (aC 1 v2.v (ag cZ) (ag x4) none) 0 (ag ((x4 - cZ) - x8)) none)]),bi v2 x4 A3] fun x hs l=> ∃(v9:V1) (De:Int) (qt:Nat→Int),x= .tuple #[v9.v,.int .i64 0]∧hs=l++[bo v9 De qt]∧
 ao (.tuple #[v9.v,.int .u64 c6,.int .i64 0]) [bo v9 De qt])))))))) (
 ao (.tuple #[.slice none 0 0,.int .u64 0,.int .i64 140]) [bo v4 ss A6]))))))))))))))))))))))))))))))))
theorem Mx(ao:PT)(x0 x1 x2 x3 x4:Int)(A0 A1 A2 A3:Nat→Int)(v0 v1 v2:V1)(h:Dr ao x0 x1 x2 x3 x4 A0 A1 A2 A3 v0 v1 v2):gq 10 [.agg [.int .u16 (.var 0),.int .u64 (.var 1),.vv 0,.b_ .u8 12 (.aN 1)],.vv 1,.vv 2] [.bK false 0 5 1 (.var 2) [⟨.int .u8,1,.aN 0⟩],.bK false 1 5 1 (.var 3) [⟨.int .u8,1,.aN 2⟩],.bK false 2 5 1 (.var 4) [⟨.int .u8,1,.aN 3⟩]] ⟨[x0,x1,x2,x3,x4],[A0,A1,A2,A3],[],[],[v0,v1,v2],[],[],[]⟩ ao:=
 qX (C:=Fm.cx) _ _ ⟨0,3,5,4,0,0,0⟩ _ 0 1 Tryz.func10 (by kernel_rfl) h
end Go.RX.Fm
