/- The types and functions of the seat's program. -/
import Derived.Test.YtphemenngjkfbaaProg
import Derived.Test.YtphemenngjkfbaaM22
import Derived.OpenShut
open Array renaming getElem?_eq_some_iff → adS
open Go.Proofs.Try renaming prog → adY
open List renaming append → adH, getElem?_append_left → adO, getElem?_append_right → adQ, getElem?_eq_getElem → ad9, getElem?_eq_some_iff → adJ, mem_append → aea, mem_cons_of_mem → adP, mem_cons_self → adN, take_sublist → aem
open Option.some renaming injEq → adK
namespace Go.RX
open Go.Proofs
set_option maxRecDepth 100000
def TT:List TI:=[
 ⟨3,.int .i64,1,8,[.int .i64 (.lit 0)],[]⟩,
 ⟨4,.bool,1,1,[.bool (.lit false)],[]⟩,
 ⟨5,.int .u8,1,1,[.int .u8 (.lit 0)],[]⟩,
 ⟨22,.slice 32,1,24,[.bT],[]⟩,
 ⟨24,.ptr 134,1,8,[.dT],[]⟩,
 ⟨25,.int .i64,1,8,[.int .i64 (.lit 0)],[]⟩,
 ⟨28,.map 30 5,1,8,[.hU],[]⟩,
 ⟨30,.struct [(5,0),(5,1)],2,2,[.int .u8 (.lit 0),.int .u8 (.lit 0)],[(some .u8,2)]⟩,
 ⟨32,.struct [(5,0),(30,1),(5,3),(3,4)],5,16,[.int .u8 (.lit 0),.int .u8 (.lit 0),.int .u8 (.lit 0),.int .u8 (.lit 0),.int .i64 (.lit 0)],[(some .u8,4),(some .i64,1)]⟩,
 ⟨40,.func,1,8,[.oh],[]⟩,
 ⟨43,.slice 5,1,24,[.bT],[]⟩,
 ⟨45,.struct [(5,0),(43,1),(3,2)],3,40,[.int .u8 (.lit 0),.bT,.int .i64 (.lit 0)],[]⟩,
 ⟨48,.slice 30,1,24,[.bT],[]⟩,
 ⟨52,.slice 53,1,24,[.bT],[]⟩,
 ⟨53,.int .u16,1,2,[.int .u16 (.lit 0)],[]⟩,
 ⟨54,.ptr 141,1,8,[.dT],[]⟩,
 ⟨60,.ptr 146,1,8,[.dT],[]⟩,
 ⟨63,.func,1,8,[.oh],[]⟩,
 ⟨64,.arr 8 5,8,8,[.aX .u8 8 (.lit 0)],[(some .u8,8)]⟩,
 ⟨65,.slice 76,1,24,[.bT],[]⟩,
 ⟨66,.ptr 154,1,8,[.dT],[]⟩,
 ⟨68,.map 72 30,1,8,[.hU],[]⟩,
 ⟨69,.map 72 74,1,8,[.hU],[]⟩,
 ⟨70,.int .u64,1,8,[.int .u64 (.lit 0)],[]⟩,
 ⟨72,.arr 16 5,16,16,[.aX .u8 16 (.lit 0)],[(some .u8,16)]⟩,
 ⟨73,.arr 32 5,32,32,[.aX .u8 32 (.lit 0)],[(some .u8,32)]⟩,
 ⟨74,.arr 32 5,32,32,[.aX .u8 32 (.lit 0)],[(some .u8,32)]⟩,
 ⟨76,.struct [(5,0),(30,1),(70,3),(72,4),(5,20),(30,21),(74,23),(5,55)],56,72,[.int .u8 (.lit 0),.int .u8 (.lit 0),.int .u8 (.lit 0),.int .u64 (.lit 0),.aX .u8 16 (.lit 0),.int .u8 (.lit 0),.int .u8 (.lit 0),.int .u8 (.lit 0),.aX .u8 32 (.lit 0),.int .u8 (.lit 0)],[(some .u8,3),(some .u64,1),(some .u8,52)]⟩,
 ⟨80,.map 72 86,1,8,[.hU],[]⟩,
 ⟨85,.struct [(72,0),(5,16),(4,17),(5,18),(70,19),(70,20),(70,21)],22,48,[.aX .u8 16 (.lit 0),.int .u8 (.lit 0),.bool (.lit false),.int .u8 (.lit 0),.int .u64 (.lit 0),.int .u64 (.lit 0),.int .u64 (.lit 0)],[(some .u8,17),(none,1),(some .u8,1),(some .u64,3)]⟩,
 ⟨86,.struct [],0,0,[],[]⟩,
 ⟨93,.func,1,8,[.oh],[]⟩,
 ⟨98,.ptr 172,1,8,[.dT],[]⟩,
 ⟨100,.slice 111,1,24,[.bT],[]⟩,
 ⟨101,.slice 85,1,24,[.bT],[]⟩,
 ⟨103,.struct [(100,0),(65,1),(101,2)],3,72,[.bT,.bT,.bT],[]⟩,
 ⟨107,.int .u32,1,4,[.int .u32 (.lit 0)],[]⟩,
 ⟨109,.struct [(5,0),(72,1),(30,17),(5,19),(74,20),(107,52),(43,53),(5,54)],55,88,[.int .u8 (.lit 0),.aX .u8 16 (.lit 0),.int .u8 (.lit 0),.int .u8 (.lit 0),.int .u8 (.lit 0),.aX .u8 32 (.lit 0),.int .u32 (.lit 0),.bT,.int .u8 (.lit 0)],[]⟩,
 ⟨111,.struct [(30,0),(109,2)],57,96,[.int .u8 (.lit 0),.int .u8 (.lit 0),.int .u8 (.lit 0),.aX .u8 16 (.lit 0),.int .u8 (.lit 0),.int .u8 (.lit 0),.int .u8 (.lit 0),.aX .u8 32 (.lit 0),.int .u32 (.lit 0),.bT,.int .u8 (.lit 0)],[]⟩,
 ⟨119,.slice 123,1,24,[.bT],[]⟩,
 ⟨120,.ptr 130,1,8,[.dT],[]⟩,
 ⟨123,.struct [(5,0),(5,1),(53,2),(5,3)],4,6,[.int .u8 (.lit 0),.int .u8 (.lit 0),.int .u16 (.lit 0),.int .u8 (.lit 0)],[(some .u8,2),(some .u16,1),(some .u8,1)]⟩,
 ⟨125,.arr 4 98,4,32,[.dT,.dT,.dT,.dT],[]⟩,
 ⟨126,.slice 216,1,24,[.bT],[]⟩,
 ⟨127,.map 30 188,1,8,[.hU],[]⟩,
 ⟨128,.map 30 101,1,8,[.hU],[]⟩,
 ⟨130,.struct [(70,0),(125,1),(126,5),(53,6),(68,7),(69,8),(65,9),(127,10),(128,11),(4,12)],13,136,[.int .u64 (.lit 0),.dT,.dT,.dT,.dT,.bT,.int .u16 (.lit 0),.hU,.hU,.bT,.hU,.hU,.bool (.lit false)],[]⟩,
 ⟨134,.struct [(5,0),(43,1),(3,2)],3,40,[.int .u8 (.lit 0),.bT,.int .i64 (.lit 0)],[]⟩,
 ⟨138,.ptr 45,1,8,[.dT],[]⟩,
 ⟨141,.struct [(52,0),(3,1)],2,32,[.bT,.int .i64 (.lit 0)],[]⟩,
 ⟨144,.slice 3,1,24,[.bT],[]⟩,
 ⟨146,.struct [(144,0),(3,1)],2,32,[.bT,.int .i64 (.lit 0)],[]⟩,
 ⟨151,.map 72 161,1,8,[.hU],[]⟩,
 ⟨152,.map 30 155,1,8,[.hU],[]⟩,
 ⟨154,.struct [(64,0),(151,8),(152,9),(70,10)],11,32,[.aX .u8 8 (.lit 0),.hU,.hU,.int .u64 (.lit 0)],[]⟩,
 ⟨155,.ptr 157,1,8,[.dT],[]⟩,
 ⟨157,.struct [(5,0),(72,1),(4,17),(5,18),(30,19),(70,21),(70,22),(80,23),(101,24)],25,72,[.int .u8 (.lit 0),.aX .u8 16 (.lit 0),.bool (.lit false),.int .u8 (.lit 0),.int .u8 (.lit 0),.int .u8 (.lit 0),.int .u64 (.lit 0),.int .u64 (.lit 0),.hU,.bT],[]⟩,
 ⟨161,.ptr 163,1,8,[.dT],[]⟩,
 ⟨163,.struct [(30,0),(5,2),(48,3),(4,4),(4,5),(30,6),(4,8),(74,9)],41,72,[.int .u8 (.lit 0),.int .u8 (.lit 0),.int .u8 (.lit 0),.bT,.bool (.lit false),.bool (.lit false),.int .u8 (.lit 0),.int .u8 (.lit 0),.bool (.lit false),.aX .u8 32 (.lit 0)],[]⟩,
 ⟨168,.ptr 205,1,8,[.dT],[]⟩,
 ⟨170,.ptr 208,1,8,[.dT],[]⟩,
 ⟨172,.struct [(30,0),(64,2),(168,10),(5,11),(72,12),(4,28),(5,29),(30,30),(74,32),(74,64),(74,96),(24,128),(170,129),(70,130),(70,131),(70,132),(70,133),(70,134),(107,135)],136,208,[.int .u8 (.lit 0),.int .u8 (.lit 0),.aX .u8 8 (.lit 0),.dT,.int .u8 (.lit 0),.aX .u8 16 (.lit 0),.bool (.lit false),.int .u8 (.lit 0),.int .u8 (.lit 0),.int .u8 (.lit 0),.aX .u8 32 (.lit 0),.aX .u8 32 (.lit 0),.aX .u8 32 (.lit 0),.dT,.dT,.int .u64 (.lit 0),.int .u64 (.lit 0),.int .u64 (.lit 0),.int .u64 (.lit 0),.int .u64 (.lit 0),.int .u32 (.lit 0)],[]⟩,
 ⟨177,.ptr 103,1,8,[.dT],[]⟩,
 ⟨188,.map 72 5,1,8,[.hU],[]⟩,
 ⟨189,.int .u64,1,8,[.int .u64 (.lit 0)],[]⟩,
 ⟨198,.slice 43,1,24,[.bT],[]⟩,
 ⟨199,.ptr 227,1,8,[.dT],[]⟩,
 ⟨203,.slice 72,1,24,[.bT],[]⟩,
 ⟨205,.struct [(203,0),(3,1)],2,32,[.bT,.int .i64 (.lit 0)],[]⟩,
 ⟨208,.struct [(48,0),(3,1)],2,32,[.bT,.int .i64 (.lit 0)],[]⟩,
 ⟨216,.struct [(30,0),(111,2)],59,104,[.int .u8 (.lit 0),.int .u8 (.lit 0),.int .u8 (.lit 0),.int .u8 (.lit 0),.int .u8 (.lit 0),.aX .u8 16 (.lit 0),.int .u8 (.lit 0),.int .u8 (.lit 0),.int .u8 (.lit 0),.aX .u8 32 (.lit 0),.int .u32 (.lit 0),.bT,.int .u8 (.lit 0)],[]⟩,
 ⟨219,.slice 107,1,24,[.bT],[]⟩,
 ⟨221,.slice 70,1,24,[.bT],[]⟩,
 ⟨223,.arr 3 3,3,24,[.aX .i64 3 (.lit 0)],[(some .i64,3)]⟩,
 ⟨225,.struct [(223,0),(223,3),(223,6),(223,9)],12,96,[.aX .i64 3 (.lit 0),.aX .i64 3 (.lit 0),.aX .i64 3 (.lit 0),.aX .i64 3 (.lit 0)],[(some .i64,12)]⟩,
 ⟨227,.struct [(219,0),(219,1),(3,2),(225,3)],15,152,[.bT,.bT,.int .i64 (.lit 0),.aX .i64 3 (.lit 0),.aX .i64 3 (.lit 0),.aX .i64 3 (.lit 0),.aX .i64 3 (.lit 0)],[]⟩,
 ⟨237,.arr 8 107,8,32,[.aX .u32 8 (.lit 0)],[(some .u32,8)]⟩]
theorem pA:bw adY TT=true:=by kernel_rfl
noncomputable def FT:List (Nat×Func):=[(2,Try.f2),(3,Try.f3),(4,Try.f4),(5,Try.f5),(6,Try.f6),(7,Try.f7),(8,Try.f8),(9,Try.f9),(10,Try.f10),(11,Try.f11),(12,Try.f12),(13,Try.f13),(14,Try.f14),(15,Try.f15),(16,Try.f16),(17,Try.f17),(18,Try.f18),(19,Try.f19),(20,Try.f20),(21,Try.f21),(22,Try.f22),(23,Try.f23),(24,Try.f24),(25,Try.f25),(26,Try.f26),(27,Try.f27),(28,Try.f28),(29,Try.f29),(30,Try.f30),(31,Try.f31),(32,Try.f32),(33,Try.f33),(34,Try.f34),(35,Try.f35),(36,Try.f36),(37,Try.f37),(38,Try.f38),(39,Try.f39),(40,Try.f40),(41,Try.f41),(42,Try.f42),(43,Try.f43),(44,Try.f44),(45,Try.f45),(46,Try.f46),(47,Try.f47),(48,Try.f48),(49,Try.f49),(50,Try.f50),(51,Try.f51),(52,Try.f52),(53,Try.f53),(54,Try.f54),(55,Try.f55),(56,Try.f56),(57,Try.f57),(58,Try.f58),(59,Try.f59),(60,Try.f60),(61,Try.f61),(62,Try.f62),(63,Try.f63),(64,Try.f64),(65,Try.f65),(66,Try.f66),(67,Try.f67),(68,Try.f68),(69,Try.f69),(70,Try.f70),(71,Try.f71),(72,Try.f72),(73,Try.f73),(74,Try.f74),(75,Try.f75),(76,Try.f76),(77,Try.f77),(78,Try.f78),(79,Try.f79),(80,Try.f80),(81,Try.f81),(82,Try.f82),(83,Try.f83),(84,Try.f84),(85,Try.f85),(86,Try.f86),(87,Try.f87),(88,Try.f88),(89,Try.f89),(90,Try.f90),(91,Try.f91),(92,Try.f92),(93,Try.f93),(94,Try.f94),(95,Try.f95),(96,Try.f96),(97,Try.f97),(98,Try.f98),(99,Try.f99),(100,Try.f100),(101,Try.f101),(102,Try.f102),(103,Try.f103),(104,Try.f104),(105,Try.f105),(106,Try.f106),(107,Try.f107),(108,Try.f108),(109,Try.f109),(110,Try.f110),(111,Try.f111),(112,Try.f112),(113,Try.f113),(114,Try.f114),(115,Try.f115),(116,Try.f116),(117,Try.f117),(118,Try.f118),(119,Try.f119),(120,Try.f120),(121,Try.f121),(122,Try.f122),(123,Try.f123),(124,Try.f124),(125,Try.f125),(126,Try.f126),(127,Try.f127),(128,Try.f128),(129,Try.f129),(130,Try.f130),(131,Try.f131),(132,Try.f132),(133,Try.f133),(134,Try.f134),(135,Try.f135),(137,Try.f137),(138,Try.f138),(139,Try.f139),(140,Try.f140),(141,Try.f141),(142,Try.f142),(143,Try.f143)]
theorem gw:bb
 adY FT:=
 bb.cons Try.func2 (by kernel_rfl) <|
 bb.cons Try.func3 (by kernel_rfl) <|
 bb.cons Try.func4 (by kernel_rfl) <|
 bb.cons Try.func5 (by kernel_rfl) <|
 bb.cons Try.func6 (by kernel_rfl) <|
 bb.cons Try.func7 (by kernel_rfl) <|
 bb.cons Try.func8 (by kernel_rfl) <|
 bb.cons Try.func9 (by kernel_rfl) <|
 bb.cons Try.func10 (by kernel_rfl) <|
 bb.cons Try.func11 (by kernel_rfl) <|
 bb.cons Try.func12 (by kernel_rfl) <|
 bb.cons Try.func13 (by kernel_rfl) <|
 bb.cons Try.func14 (by kernel_rfl) <|
 bb.cons Try.func15 (by kernel_rfl) <|
 bb.cons Try.func16 (by kernel_rfl) <|
 bb.cons Try.func17 (by kernel_rfl) <|
 bb.cons Try.func18 (by kernel_rfl) <|
 bb.cons Try.func19 (by kernel_rfl) <|
 bb.cons Try.func20 (by kernel_rfl) <|
 bb.cons Try.func21 (by kernel_rfl) <|
 bb.cons Try.func22 (by kernel_rfl) <|
 bb.cons Try.func23 (by kernel_rfl) <|
 bb.cons Try.func24 (by kernel_rfl) <|
 bb.cons Try.func25 (by kernel_rfl) <|
 bb.cons Try.func26 (by kernel_rfl) <|
 bb.cons Try.func27 (by kernel_rfl) <|
 bb.cons Try.func28 (by kernel_rfl) <|
 bb.cons Try.func29 (by kernel_rfl) <|
 bb.cons Try.func30 (by kernel_rfl) <|
 bb.cons Try.func31 (by kernel_rfl) <|
 bb.cons Try.func32 (by kernel_rfl) <|
 bb.cons Try.func33 (by kernel_rfl) <|
 bb.cons Try.func34 (by kernel_rfl) <|
 bb.cons Try.func35 (by kernel_rfl) <|
 bb.cons Try.func36 (by kernel_rfl) <|
 bb.cons Try.func37 (by kernel_rfl) <|
 bb.cons Try.func38 (by kernel_rfl) <|
 bb.cons Try.func39 (by kernel_rfl) <|
 bb.cons Try.func40 (by kernel_rfl) <|
 bb.cons Try.func41 (by kernel_rfl) <|
 bb.cons Try.func42 (by kernel_rfl) <|
 bb.cons Try.func43 (by kernel_rfl) <|
 bb.cons Try.func44 (by kernel_rfl) <|
 bb.cons Try.func45 (by kernel_rfl) <|
 bb.cons Try.func46 (by kernel_rfl) <|
 bb.cons Try.func47 (by kernel_rfl) <|
 bb.cons Try.func48 (by kernel_rfl) <|
 bb.cons Try.func49 (by kernel_rfl) <|
 bb.cons Try.func50 (by kernel_rfl) <|
 bb.cons Try.func51 (by kernel_rfl) <|
 bb.cons Try.func52 (by kernel_rfl) <|
 bb.cons Try.func53 (by kernel_rfl) <|
 bb.cons Try.func54 (by kernel_rfl) <|
 bb.cons Try.func55 (by kernel_rfl) <|
 bb.cons Try.func56 (by kernel_rfl) <|
 bb.cons Try.func57 (by kernel_rfl) <|
 bb.cons Try.func58 (by kernel_rfl) <|
 bb.cons Try.func59 (by kernel_rfl) <|
 bb.cons Try.func60 (by kernel_rfl) <|
 bb.cons Try.func61 (by kernel_rfl) <|
 bb.cons Try.func62 (by kernel_rfl) <|
 bb.cons Try.func63 (by kernel_rfl) <|
 bb.cons Try.func64 (by kernel_rfl) <|
 bb.cons Try.func65 (by kernel_rfl) <|
 bb.cons Try.func66 (by kernel_rfl) <|
 bb.cons Try.func67 (by kernel_rfl) <|
 bb.cons Try.func68 (by kernel_rfl) <|
 bb.cons Try.func69 (by kernel_rfl) <|
 bb.cons Try.func70 (by kernel_rfl) <|
 bb.cons Try.func71 (by kernel_rfl) <|
 bb.cons Try.func72 (by kernel_rfl) <|
 bb.cons Try.func73 (by kernel_rfl) <|
 bb.cons Try.func74 (by kernel_rfl) <|
 bb.cons Try.func75 (by kernel_rfl) <|
 bb.cons Try.func76 (by kernel_rfl) <|
 bb.cons Try.func77 (by kernel_rfl) <|
 bb.cons Try.func78 (by kernel_rfl) <|
 bb.cons Try.func79 (by kernel_rfl) <|
 bb.cons Try.func80 (by kernel_rfl) <|
 bb.cons Try.func81 (by kernel_rfl) <|
 bb.cons Try.func82 (by kernel_rfl) <|
 bb.cons Try.func83 (by kernel_rfl) <|
 bb.cons Try.func84 (by kernel_rfl) <|
 bb.cons Try.func85 (by kernel_rfl) <|
 bb.cons Try.func86 (by kernel_rfl) <|
 bb.cons Try.func87 (by kernel_rfl) <|
 bb.cons Try.func88 (by kernel_rfl) <|
 bb.cons Try.func89 (by kernel_rfl) <|
 bb.cons Try.func90 (by kernel_rfl) <|
 bb.cons Try.func91 (by kernel_rfl) <|
 bb.cons Try.func92 (by kernel_rfl) <|
 bb.cons Try.func93 (by kernel_rfl) <|
 bb.cons Try.func94 (by kernel_rfl) <|
 bb.cons Try.func95 (by kernel_rfl) <|
 bb.cons Try.func96 (by kernel_rfl) <|
 bb.cons Try.func97 (by kernel_rfl) <|
 bb.cons Try.func98 (by kernel_rfl) <|
 bb.cons Try.func99 (by kernel_rfl) <|
 bb.cons Try.func100 (by kernel_rfl) <|
 bb.cons Try.func101 (by kernel_rfl) <|
 bb.cons Try.func102 (by kernel_rfl) <|
 bb.cons Try.func103 (by kernel_rfl) <|
 bb.cons Try.func104 (by kernel_rfl) <|
 bb.cons Try.func105 (by kernel_rfl) <|
 bb.cons Try.func106 (by kernel_rfl) <|
 bb.cons Try.func107 (by kernel_rfl) <|
 bb.cons Try.func108 (by kernel_rfl) <|
 bb.cons Try.func109 (by kernel_rfl) <|
 bb.cons Try.func110 (by kernel_rfl) <|
 bb.cons Try.func111 (by kernel_rfl) <|
 bb.cons Try.func112 (by kernel_rfl) <|
 bb.cons Try.func113 (by kernel_rfl) <|
 bb.cons Try.func114 (by kernel_rfl) <|
 bb.cons Try.func115 (by kernel_rfl) <|
 bb.cons Try.func116 (by kernel_rfl) <|
 bb.cons Try.func117 (by kernel_rfl) <|
 bb.cons Try.func118 (by kernel_rfl) <|
 bb.cons Try.func119 (by kernel_rfl) <|
 bb.cons Try.func120 (by kernel_rfl) <|
 bb.cons Try.func121 (by kernel_rfl) <|
 bb.cons Try.func122 (by kernel_rfl) <|
 bb.cons Try.func123 (by kernel_rfl) <|
 bb.cons Try.func124 (by kernel_rfl) <|
 bb.cons Try.func125 (by kernel_rfl) <|
 bb.cons Try.func126 (by kernel_rfl) <|
 bb.cons Try.func127 (by kernel_rfl) <|
 bb.cons Try.func128 (by kernel_rfl) <|
 bb.cons Try.func129 (by kernel_rfl) <|
 bb.cons Try.func130 (by kernel_rfl) <|
 bb.cons Try.func131 (by kernel_rfl) <|
 bb.cons Try.func132 (by kernel_rfl) <|
 bb.cons Try.func133 (by kernel_rfl) <|
 bb.cons Try.func134 (by kernel_rfl) <|
 bb.cons Try.func135 (by kernel_rfl) <|
 bb.cons Try.func137 (by kernel_rfl) <|
 bb.cons Try.func138 (by kernel_rfl) <|
 bb.cons Try.func139 (by kernel_rfl) <|
 bb.cons Try.func140 (by kernel_rfl) <|
 bb.cons Try.func141 (by kernel_rfl) <|
 bb.cons Try.func142 (by kernel_rfl) <|
 bb.cons Try.func143 (by kernel_rfl) <|
 bb.nil
theorem pB:Try.prog.follows .mixedOrders=true:=by kernel_rfl
def aD(a b:List HP):Prop:= ∀(w:World) (Fs:List HP),bd (a++Fs) w→bd (b++Fs) w
theorem aD.refl(a:List HP):aD a a:=fun _ _ h=>h
theorem aD.trans{a b c:List HP}(h:aD a b)(k:aD b c):aD a c:=fun w Fs o=>k w Fs (h w Fs o)
theorem PW{α:Type}{a b:List α}(h:b.Sublist a): ∃f:Nat→Nat,(∀i j,f i=f j→i=j)∧∀(j:Nat) x,b[j]? =some x→a[f j]? =some x:=by
 induction h with
 | slnil=>exact⟨id,fun _ _ h=>h,fun _ _ h=>h⟩
 | cons x _ ih=>
  obtain⟨f,h1,h2⟩:=ih;exact⟨fun j=>f j+1,fun i j h=>h1 i j (by simpa using h),fun j y hy=>by simpa using h2 j y hy⟩
 | cons_cons x _ ih=>
  obtain⟨f,h1,h2⟩:=ih;refine⟨fun j=>match j with | 0=>0 | j+1=>f j+1,fun i j h=>?_,fun j y hy=>?_⟩
  ·cases i<;>cases j<;>simp at h ⊢
   exact h1 _ _ h
  ·cases j with
   | zero=>simpa using hy
   | succ j=>simpa using h2 j y (by simpa using hy)
theorem bd.sub{a b:List HP}{w:World}(h:bd a w)(hs:b.Sublist a):bd b w:=by
 obtain⟨f,h1,h2⟩:=PW hs;refine h.rI (fun j=>some (f j)) (fun j x hx=> .inr ⟨f j,rfl,h2 j x hx⟩) ?_;intro j j' i hj ky _ _;cases hj;simp only [adK]at ky;exact h1 _ _ ky.symm
theorem aD.sub{a b:List HP}(h:b.Sublist a):aD a b:=fun _ _ o=>o.sub (List.Sublist.append h (List.Sublist.refl _))
theorem aD.put{a:List HP}(i:Nat)(h0 h':HP)(hi:a[i]? =some h0)(hw:h'.wr=true→h0.wr=true)(hp: ∀w S,h0.p w S→∃S':Nat→Prop,(∀k,S' k→S k)∧h'.p w S'):aD a (a.set i h'):=by
 intro w Fs ⟨S,hS⟩;have cK:i<a.length:=(adJ.1 hi).1;obtain⟨S',h1,h2⟩:=hp _ _ (hS.at_ i h0 (by rw [adO cK];exact hi)).1;exact bd.weaken hS i h0 h' hi hw S' h1 h2
theorem aq.post{P:Program}{f:Nat}{args:List Value}{pre:List HP}{p q:Value→List HP→Prop}(h:aq P f args pre p)(hpq: ∀v hs,p v hs→∃gN,aD hs gN∧q v gN):aq P f args pre q:=by
 intro w Fs o;refine(h w Fs o).mono ?_;rintro e w' ⟨v,hs,he,hp,ho,gN⟩;obtain⟨tL,h1,h2⟩:=hpq v hs hp;exact⟨v,tL,he,h2,h1 _ _ ho,gN⟩
theorem aq.pre{P:Program}{f:Nat}{args:List Value}{pre Gm:List HP}{p:Value→List HP→Prop}(h:aq P f args Gm p)(he:aD pre Gm):aq P f args pre p:=
 fun w Fs o=>h w Fs (he _ _ o)
theorem aq.ji{P:Program}{C:Ctx}(hT:bw P C.T=true)(Ba:bb P C.FT)(hm:P.follows .mixedOrders=true){f:Nat}{fd:Func}(hf:P.funcs[f]? =some fd)
  (h:(cC C f [] [] {} fd).ji=true) (Ec:gk P C:=by exact gk.none rfl):aq P f [] [] (fun v hs=>v= .bool true∧hs=[]):=by
 have:=aq.eA (ao:=fun v _=>v= .bool true) (ρ:=ss) (args:=[]) (hp:=[]) hT Ba hm hf (by constructor<;>rfl) (F.GJ _ _ h) Ec;exact this.post fun v hs h=>⟨[],aD.sub (List.nil_sublist _),h,rfl⟩
theorem Ir{w:World}{t s n k:Nat}{v:Value}{cs:List Value}{S:Nat→Prop}(h:(aB true t s v n cs).p w S)(hk:k≤n):
  (aB true t s (bJ s v 0 k none) k (cs.take (k*s))).p w S:=by
 have hw:=kM.whole (ρ:=ss) (s:=s) (v:=v) (n:= .lit n) (by simpa [E.den] using ll h);have ow:=hw.step ⟨.lit 0,.lit k,none⟩ (fun b hb=>by
  simp only [gm,dC]at hb;have: ∀(x y:Int),x≤y→∀b∈dG (.lit x) (.lit y),b.prop ss:=by
   intro x y Vc b hb;unfold dG at hb;split at hb
   ·cases hb
   ·simp [wF,Vc]at hb
  rcases aea.1 hb with hb | hb
  ·rcases aea.1 hb with hb | hb
   ·exact this 0 0 (Int.le_refl _) b hb
   ·exact this 0 k (by omega) b hb
  ·exact this (0+k) n (by omega) b hb)
 have dL:=ow.1;obtain⟨cE,jH⟩:=h;simp only [if_true]at cE;have hx:bJ s v (E.den ss (.lit 0) 0).toNat (E.den ss (.lit k) 0).toNat (Option.map (fun m=>(E.den ss m 0).toNat) none)=bJ s v 0 k none:=by simp [E.den]
 rw [hx]at dL;have hln:((E.lit (n:Int)).den ss 0).toNat=n:=by simp [E.den]
 rw [←hln]at cE;obtain⟨o1,o2⟩:=qf dL (by simp [gm,rV,E.den]) cE;rw [show((gm (.lit (n:Int)) ⟨.lit 0,.lit (n:Int),none⟩ ⟨.lit 0,.lit (k:Int),none⟩).1.lo.den ss 0).toNat=0 by simp [gm,dC,E.den],Nat.zero_mul,List.drop_zero]at o1;have hlk:((gm (.lit (n:Int)) ⟨.lit 0,.lit (n:Int),none⟩ ⟨.lit 0,.lit (k:Int),none⟩).1.len.den ss 0).toNat=k:=by simp [gm,rV,E.den]
 rw [hlk]at o1;refine⟨?_,fun q=>?_⟩
 ·simp only [if_true];exact o1
 ·rw [o2,jH q];simp
def Ef(P:Program)(g:TypeId→Option (List (Option IntKind))):List Field→Nat→Option (List (Option IntKind))
 | [],_=>some []
 | f::r,off=>match g f.type,Ef P g r (off+P.cellsOf f.type)with
  | some ks,some l=>if f.offset=off∧P.cellsOf f.type=ks.length then some (ks++l)else none
  | _,_=>none
def flat(P:Program):Nat→TypeId→Option (List (Option IntKind))
 | 0,_=>none
 | n+1,t=>match P.underlying t with
  | some (.int k)=>some [some k]
  | some .bool=>some [none]
  | some (.struct fs)=>Ef P (flat P n) fs.toList 0
  | _=>none
def yL:Option IntKind→Int→Value
 | some k,n=> .int k n
 | none,n=> .bool (!(n==0))
def pD:Option IntKind→Int→Prop
 | some k,n=>(Lit.int k n).wf=true
 | none,_=>True
def GK(k:Option IntKind)(v:Value):Prop:= ∃n,v=yL k n∧pD k n
section
variable {H:Type} {enc:TypeId×Value→H} {P:Program} {w:World} {base:Nat} {spare:Nat→Bool} {held:Bool}
theorem yM{g:TypeId→Option (List (Option IntKind))}{cs:List Value}(hg: ∀t ks uC,g t=some ks→(∃n x,DataW.trod enc P w base spare held n t uC=some x)→∀(j:Nat) k,ks[j]? =some k→∃v,uC[j]? =some v∧GK k v):
  ∀{fs:List Field} {off:Nat} {ks:List (Option IntKind)},Ef P g fs off=some ks→(∀f∈fs,∃n x,DataW.trod enc P w base spare held n f.type ((cs.drop f.offset).take (P.cellsOf f.type))=some x)→
   ∀(j:Nat) k,ks[j]? =some k→∃v,cs[off+j]? =some v∧GK k v
 | [],off,ks,h,_,j,k,hk=>by
  simp only [Ef,adK]at h;subst h;simp at hk
 | f::r,off,ks,h,hf,j,k,hk=>by
  unfold Ef at h;split at h
  ·rename_i k1 l h1 h2;split at h
   ·rename_i hc;obtain⟨rfl,Xc⟩:=hc;cases h;by_cases hj:j<k1.length
    ·rw [adO hj]at hk;obtain⟨v,hv,ng⟩:=hg _ _ _ h1 (hf f adN) j k hk;refine⟨v,?_,ng⟩;rw [List.getElem?_take]at hv;split at hv
     ·rw [List.getElem?_drop]at hv;exact hv
     ·cases hv
    ·rw [adQ (by omega)]at hk;obtain⟨v,hv,ng⟩:=yM hg h2 (fun f' D0=>hf f' (adP _ D0)) _ k hk;refine⟨v,?_,ng⟩;rw [←hv,Xc];congr 1;omega
   ·cases h
  ·cases h
theorem Bb: ∀{n:Nat} {t:TypeId} {ks:List (Option IntKind)} {cs:List Value},flat P n t=some ks→(∃m x,DataW.trod enc P w base spare held m t cs=some x)→∀(j:Nat) k,ks[j]? =some k→∃v,cs[j]? =some v∧GK k v
 | 0,_,_,_,h,_,_,_,_=>by cases h
 | n+1,t,ks,cs,h,⟨m,x,hx⟩,j,k,hk=>by
  unfold flat at h;split at h
  ·rename_i kk ht;cases h;obtain⟨z,rfl,_,hw⟩:=DataW.trod_int ht hx
   match j,hk with
   | 0,hk=>
    simp at hk;subst hk;exact⟨_,rfl,z,rfl,hw⟩
   | j+1,hk=>simp at hk
  ·rename_i ht;cases h;cases m with
   | zero=>simp [DataW.trod]at hx
   | succ m=>
    have hb: ∃b,cs=[.bool b]:=by
     unfold DataW.trod at hx;rw [ht]at hx;split at hx<;>simp_all
    obtain⟨b,rfl⟩:=hb
    match j,hk with
    | 0,hk=>
     simp at hk;subst hk;exact⟨_,rfl,if b then 1 else 0,by cases b<;>rfl,trivial⟩
    | j+1,hk=>simp at hk
  ·rename_i fs ht;obtain⟨ys,n',_,_,_,Uf,hf⟩:=DataW.trod_struct ht hx;have:=yM (cs:=cs) (fun t ks uC h1 h2=>Bb (n:=n) h1 h2) h (fun f D0=>by
    obtain⟨i,hi⟩:=List.getElem?_of_mem D0;have nH:fs[i]? =some f:=by rw [←hi,Array.getElem?_toList]
    have h1:=hf i f nH;have CZ:i<fs.size:=(adS.1 nH).1;exact⟨n',ys[i]'(by omega),h1.trans (ad9 _)⟩) j k hk
   simpa using this
  ·cases h
end
def HY(ks:List (Option IntKind))(w:World)(a:Option Addr)(len cap:Nat)(F:Nat→Nat→Int):Prop:=
 (a=none∧len=0∧cap=0)∨
 ∃x,a=some x∧len≤cap∧cap≤maxLen∧∀i,i<len→∀(j:Nat) k,ks[j]? =some k→w.cell? (x.add (i*ks.length+j))=some (yL k (F i j))∧pD k (F i j)
theorem LL{H:Type}{enc:TypeId×Value→H}{P:Program}{w:World}{base:Nat}{spare:Nat→Bool}{held:Bool}{t e:TypeId}{n:Nat}{ks:List (Option IntKind)}{fuel:Nat}{cs:List Value}{x:DataW H×List MemPlace}
  (ht:P.underlying t=some (.slice e)) (he:flat P n e=some ks) (hc:P.cellsOf e=ks.length) (h:DataW.trod enc P w base spare held fuel t cs=some x):
  ∃a len cap F,cs=[.slice a len cap]∧HY ks w a len cap F:=by
 rcases DataW.trod_slice ht h with⟨rfl,_⟩ | ⟨a,len,cap,elems,rest,m,_,rfl,_,hb,hl,hm,hlen,YE,_,_⟩
 ·exact⟨none,0,0,fun _ _=>0,rfl,.inl ⟨rfl,rfl,rfl⟩⟩
 have key: ∀i j,∃z:Int,i<len→∀k,ks[j]? =some k→w.cell? (a.add (i*ks.length+j))=some (yL k z)∧pD k z:=by
  intro i j;by_cases hi:i<len
  ·cases hk:ks[j]? with
   | none=>exact⟨0,fun _ k py=>by cases py⟩
   | some k=>
    have h1:=YE i hi;have hg:elems[i]? =some (elems[i]'(by omega)):=ad9 (by omega);rw [hg,Option.bind_eq_some_iff]at h1;obtain⟨uC,m_,htr⟩:=h1;obtain⟨v,hv,z,rfl,hz⟩:=Bb he ⟨_,_,htr⟩ j k hk;obtain⟨_,dZ,dM⟩:=World.cells?_some m_;have Ud:j<ks.length:=(adJ.1 hk).1;refine⟨z,fun _ k' py=>?_⟩;cases py;refine⟨?_,hz⟩;have:=dM j (by rw [hc];exact Ud);rw [hv,hc,dr]at this;exact this
  ·exact⟨0,fun h=>absurd h hi⟩
 refine⟨some a,len,cap,fun i j=>(key i j).choose,rfl,.inr ⟨a,rfl,hl,hm,fun i hi j k hk=>(key i j).choose_spec hi k hk⟩⟩
def MH(k:Option IntKind)(f:Nat→Int):Nat→List Value:=
 match k with
 | some k=>au k 1 f
 | none=>ou 1 f
theorem MI(k:Option IntKind)(f:Nat→Int)(i:Nat):MH k f i=[yL k (f i)]:=by
 cases k<;>simp [MH,au,ou,al,yL]
def dO:List (Option IntKind)→(Nat→Nat→Int)→List (Nat→List Value)
 | [],_=>[]
 | k::r,F=>MH k (fun i=>F i 0)::dO r fun i j=>F i (j+1)
theorem tO: ∀{ks:List (Option IntKind)} {F:Nat→Nat→Int} {i:Nat},((dO ks F).flatMap fun c=>c i).length=ks.length∧∀(j:Nat) u,((dO ks F).flatMap fun c=>c i)[j]? =some u→∃k,ks[j]? =some k∧u=yL k (F i j)
 | [],F,i=>⟨rfl,fun j u h=>by simp [dO]at h⟩
 | k::r,F,i=>by
  obtain⟨h1,h2⟩:=tO (ks:=r) (F:=fun i j=>F i (j+1)) (i:=i);simp only [dO,List.flatMap_cons,MI,List.singleton_append];refine⟨by simp only [List.length_cons,h1],fun j u h=>?_⟩;cases j with
  | zero=>simp at h;exact⟨k,rfl,h.symm⟩
  | succ j=>exact h2 j u (by simpa using h)
theorem GL{ks:List (Option IntKind)}{F:Nat→Nat→Int}: ∀{n:Nat},(aH n (dO ks F)).length=n*ks.length∧∀(m:Nat) u,(aH n (dO ks F))[m]? =some u→∃i j k,i<n∧ks[j]? =some k∧m=i*ks.length+j∧u=yL k (F i j)
 | 0=>⟨by simp [aH],fun m u h=>by simp [aH]at h⟩
 | n+1=>by
  obtain⟨h1,h2⟩:=GL (ks:=ks) (F:=F) (n:=n);have e:aH (n+1) (dO ks F)=aH n (dO ks F)++(dO ks F).flatMap fun c=>c n:=by
   simp [aH,List.range_succ,List.flatMap_append]
  obtain⟨h3,h4⟩:=tO (ks:=ks) (F:=F) (i:=n);rw [e];refine⟨by rw [List.length_append,h1,h3,Nat.succ_mul],fun m u h=>?_⟩;by_cases hm:m<(aH n (dO ks F)).length
  ·rw [adO hm]at h;obtain⟨i,j,k,q1,q2,q3,q4⟩:=h2 m u h;exact⟨i,j,k,by omega,q2,q3,q4⟩
  ·rw [adQ (by omega)]at h;obtain⟨k,q1,q2⟩:=h4 _ u h;refine⟨n,_,k,by omega,q1,?_,q2⟩;rw [h1]at hm ⊢;omega
theorem LK{ks:List (Option IntKind)}{w:World}{a:Option Addr}{len cap:Nat}{F:Nat→Nat→Int}(h:HY ks w a len cap F)(hk:0<ks.length)(t:Nat):
  bd ([aB false t ks.length (.slice a len cap) len (aH len (dO ks F))]++[BF w.heap.size w]) w:=by
 have Ap: ∃k,ks[0]? =some k:=⟨_,ad9 hk⟩;obtain⟨k0,Ap⟩:=Ap;have h1:(aB false t ks.length (.slice a len cap) len (aH len (dO ks F))).p w (fun b=>(Value.slice a len cap).ownBlock=some b∧0<len):=by
  refine⟨?_,fun b=>by simp⟩;simp only [Bool.false_eq_true,if_false];refine⟨GL.1,a,len,cap,rfl,rfl,?_,?_,?_⟩
  ·rcases h with⟨_,rfl,rfl⟩ | ⟨x,_,h,_⟩
   ·exact Nat.le_refl _
   ·exact h
  ·rintro rfl;rcases h with⟨_,h,_⟩ | ⟨x,h,_⟩
   ·exact h
   ·cases h
  ·rintro ad rfl;rcases h with⟨h,_⟩ | ⟨x,h,hl,_,hc⟩
   ·cases h
   ·cases h;constructor
    ·intro wH;have h0:=(hc 0 wH 0 k0 Ap).1;rw [Nat.zero_mul,Nat.zero_add,jX]at h0;exact World.cell?_spot h0
    ·intro j u hu;obtain⟨i,j',k,q1,q2,rfl,rfl⟩:=GL.2 j u hu;exact(hc i q1 j' k q2).1
 have h2: ∀b,(Value.slice a len cap).ownBlock=some b∧0<len→b<w.heap.size:=by
  rintro b ⟨hb,wH⟩;rcases h with⟨rfl,rfl,_⟩ | ⟨x,rfl,hl,_,hc⟩
  ·omega
  ·simp only [Value.ownBlock,adK]at hb;subst hb;have:=World.block_lt_of_cell? w _ (hc 0 wH 0 k0 Ap).1;rw [Nat.zero_mul,Nat.zero_add,jX]at this;exact this
 refine⟨fun i b=>if i=0 then(Value.slice a len cap).ownBlock=some b∧0<len else b<w.heap.size,⟨?_,?_⟩⟩
 ·intro i hp hi
  match i,hi with
  | 0,hi=>simp at hi;subst hi;exact⟨h1,h2⟩
  | 1,hi=>simp at hi;subst hi;exact⟨⟨fun _=>Iff.rfl,fun _ _=>rfl⟩,fun _ h=>h⟩
  | i+2,hi=>simp at hi
 ·intro i j x y fc hi hj wW;exfalso;have key: ∀(i:Nat) (x:HP),([aB false t ks.length (.slice a len cap) len (aH len (dO ks F))]++[BF w.heap.size w])[i]? =some x→x.wr=false:=by
   intro i x hi
   match i,hi with
   | 0,hi=>simp at hi;subst hi;rfl
   | 1,hi=>simp at hi;subst hi;rfl
   | i+2,hi=>simp at hi
  rw [key i x hi,key j y hj]at wW;simp at wW
theorem aq.bare{P:Program}{C:Ctx}(hT:bw P C.T=true)(Ba:bb P C.FT)(hm:P.follows .mixedOrders=true){f:Nat}{fd:Func}(hf:P.funcs[f]? =some fd)(Q:Value→List HP→Prop)
  {g:F} {s:Prop} (e:cC C f [] [] {b:=0,v:=0,i:=0,a:=0,bo:=0,p:=0,r:=0} fd=g) (hv:VC P (fun v _=>Q v []) g {iv:=[],av:=[],bo:=[],bv:=[],vv:=[]} (fun _=>LC.none)=s) (hs:s) (Ec:gk P C:=by exact gk.none rfl):aq P f [] [] (fun v hs=>Q v []∧hs=[]):=by
 subst e;subst hv;have:=aq.eA (ao:=fun v _=>Q v []) (ρ:={}) (args:=[]) (hp:=[]) hT Ba hm hf (by constructor<;>rfl) hs Ec;exact this.post fun v hs h=>⟨[],aD.sub (List.nil_sublist _),h,rfl⟩
theorem aq.fH{P:Program}{C:Ctx}(hT:bw P C.T=true)(Ba:bb P C.FT)(hm:P.follows .mixedOrders=true){f:Nat}{fd:Func}(hf:P.funcs[f]? =some fd){ao:Value→List HP→Prop}{args:List SV}{hp:List Ck}{aQ:cz}{ρ:Env}(hl:gg ρ aQ)
  {g:F} {s:Prop} (e:cC C f args hp aQ fd=g) (hv:VC P ao g ρ (fun _=>LC.none)=s) (hs:s) (Ec:gk P C:=by exact gk.none rfl):aq P f (SV.bK ρ args) (hp.map (Ck.den ρ)) ao:=by
 subst e;subst hv;exact aq.eA hT Ba hm hf hl hs Ec
section
variable {H:Type} {enc:TypeId×Value→H} {P:Program} {w:World} {base:Nat} {spare:Nat→Bool} {held:Bool}
end
abbrev cI(l:List (Nat→List Value))(i:Nat):List Value:=l.flatMap fun c=>c i
end Go.RX

namespace Go
abbrev Value.pp(b:Nat):Value:= .pointer (some ⟨b,0,none⟩)
namespace RX
open Go.Proofs
section
variable {C:Ctx} {f:Nat} {fd:Func} (args:List SV) (hp:List Ck) (aQ:cz) (ρ:Env) {ao:Value→List HP→Prop} {s:Prop}
theorem mtB(hf:Try.prog.funcs[f]? =some fd)(hv:VC adY (fun v _=>ao v []) (cC C f args hp aQ fd) ρ (fun _=>LC.none)=s)(h:s)(hT:bw adY C.T=true:=by exact pA)(Ba:bb adY C.FT:=by exact gw)(hl:gg ρ aQ:=by constructor<;>rfl)
  (Ec:gk adY C:=by exact gk.none rfl):aq adY f (SV.bK ρ args) (hp.map (Ck.den ρ)) ao:=
 aq.post (aq.fH (C:=C) hT Ba pB hf hl rfl hv h Ec) fun _ hs hq=>⟨_,aD.sub (List.nil_sublist hs),hq⟩
theorem XO(k:Nat)(hf:Try.prog.funcs[f]? =some fd)(hv:VC adY (fun v hs=>ao v (hs.take k)) (cC C f args hp aQ fd) ρ (fun _=>LC.none)=s)(h:s)(hT:bw adY C.T=true:=by exact pA)(Ba:bb adY C.FT:=by exact gw)(hl:gg ρ aQ:=by constructor<;>rfl)
  (Ec:gk adY C:=by exact gk.none rfl):aq adY f (SV.bK ρ args) (hp.map (Ck.den ρ)) ao:=
 aq.post (aq.fH (C:=C) hT Ba pB hf hl rfl hv h Ec) fun _ hs hq=>⟨_,aD.sub (aem k hs),hq⟩
theorem rk(hf:Try.prog.funcs[f]? =some fd)(hv:VC adY ao (cC C f args hp aQ fd) ρ (fun _=>LC.none)=s)(h:s)(hT:bw adY C.T=true:=by exact pA)(Ba:bb adY C.FT:=by exact gw)(hl:gg ρ aQ:=by constructor<;>rfl)
  (Ec:gk adY C:=by exact gk.none rfl):aq adY f (SV.bK ρ args) (hp.map (Ck.den ρ)) ao:=
 aq.fH (C:=C) hT Ba pB hf hl rfl hv h Ec
end
abbrev bo(v:V1)(n:Int)(A:Nat→Int):HP:=aB true 5 1 v.v n.toNat (aH n.toNat [au .u8 1 A])
abbrev bn(md:Bool)(v:V1)(n:Nat)(A:Nat→Int):HP:=aB md 5 1 v.v n (aH n [au .u8 1 A])
abbrev Cl(P:Program)(f:Nat)(a:List Value)(L:List HP)(K:Value→List HP→List HP→Prop):Prop:= ∃post,aq P f a L post∧∀x hs,post x hs→K x hs L
abbrev ur(x:Int)(p:Prop):Prop:=aM (-9223372036854775808≤x) (aM (x≤9223372036854775807) p)
abbrev MJ(x:Int)(p:Prop):Prop:=aM (x≤140737488355328) p
abbrev _root_.Go.Value.sg(n:Nat)(A:Nat→Int):Value:= .agg (adH (al .u8 n A) []).toArray
abbrev _root_.Go.Value.dv(x y:Int):Value:= .agg #[.int .u8 x,.int .u8 y]
abbrev Dw(b:Nat)(x y:Int):HP:=ak b true [.int .u8 x,.int .u8 y]
abbrev Sg(k:Int)(A:Nat→Int)(f g h:Int)(B:Nat→Int)(x y:Int):List Value:= .int .u8 k::(adH (al .u8 16 A) (.int .u8 f::(.int .u8 g::(.int .u8 h::(adH (al .u8 32 B) [.int .u32 x,.slice none 0 0,.int .u8 y])))))
abbrev Mw(b:Nat)(a d:Int)(A:Nat→Int)(e:Nat)(s:Int)(B:Nat→Int)(o:Bool)(p q r:Int)(U V W:Nat→Int)(f g:Value)(t u v w x y:Int):HP:=
 ak b true (.int .u8 a::(.int .u8 d::(adH (al .u8 8 A) (.pp e::(.int .u8 s::(adH (al .u8 16 B) (.bool o::(.int .u8 p::(.int .u8 q::(.int .u8 r::(adH (al .u8 32 U) (adH (al .u8 32 V) (adH (al .u8 32 W) [f,g,.int .u64 t,.int .u64 u,.int .u64 v,.int .u64 w,.int .u64 x,.int .u32 y])))))))))))))
abbrev Fw(b:Nat)(n:Int)(i j k l:Nat)(v:Value)(d:Int)(t p:Nat)(e:Value)(r q:Nat)(o:Bool):HP:=ak b true [.int .u64 n,.pp i,.pp j,.pp k,.pp l,v,.int .u16 d,.map (some t),.map (some p),e,.map (some r),.map (some q),.bool o]
abbrev Hw(b:Nat)(v w:Value):HP:=ak b true [v,w,.int .i64 4,.int .i64 2,.int .i64 13,.int .i64 22,.int .i64 6,.int .i64 11,.int .i64 25,.int .i64 7,.int .i64 18,.int .i64 3,.int .i64 17,.int .i64 19,.int .i64 10]
abbrev Uw(v:Value)(n:Nat)(A:Nat→Int):HP:=aB true 107 1 v n (aH n [au .u32 1 A])
abbrev Fl(v:Value)(n:Nat)(A B C D E F G H I J K L:Nat→Int):HP:=aB true 216 59 v n (aH n [au .u8 1 A,au .u8 1 B,au .u8 1 C,au .u8 1 D,au .u8 1 E,au .u8 16 F,au .u8 1 G,au .u8 1 H,au .u8 1 I,au .u8 32 J,au .u32 1 K,dI 1 (fun _=> .slice none 0 0),au .u8 1 L])
end RX
end Go

namespace Go.RX.Fr
open Go.RX
def u8(i:Nat):SV:= .int .u8 (.var i)
def u64(i:Nat):SV:= .int .u64 (.var i)
def c1(a:Nat):bV:=⟨.int .u8,1,.aw a⟩
def Xq(a:Nat):bV:=⟨.int .u64,1,.aw a⟩
def PX(a:Nat):List bV:=[c1 a,⟨.int .u8,16,.aw (a+1)⟩,c1 (a+2),c1 (a+3),c1 (a+4),⟨.int .u8,32,.aw (a+5)⟩,⟨.int .u32,1,.aw (a+6)⟩,⟨.bT,1,.lit 0⟩,c1 (a+7)]
def xf(a:Nat):List bV:=[c1 a,c1 (a+1)]++PX (a+2)
def qP(a:Nat):List bV:=[c1 a,c1 (a+1)]++xf (a+2)
def B1(a:Nat):List bV:=[c1 a,c1 (a+1),c1 (a+2),Xq (a+3),⟨.int .u8,16,.aw (a+4)⟩,c1 (a+5),c1 (a+6),c1 (a+7),⟨.int .u8,32,.aw (a+8)⟩,c1 (a+9)]
def qQ(a:Nat):List bV:=[⟨.int .u8,16,.aw a⟩,c1 (a+1),⟨.bool,1,.aw (a+2)⟩,c1 (a+3),Xq (a+4),Xq (a+5),Xq (a+6)]
def qg:List IntKind:=List.replicate 16 .u8
def k2:List IntKind:=[.u8,.u8]
def kd(i:Nat):Nat:=bM [((i/2:Nat):Int),((i%2:Nat):Int)]
def row:Ck:= .row 0 true [u64 0,.ptr 1 0,.ptr 2 0,.ptr 3 0,.ptr 4 0,.vv 0,.int .u16 (.var 1),.mp 5,.mp 6,.vv 1,.mp 7,.mp 8,.bool (.nz (.var 2))]
def SL(i:Nat):Ck:= .row (i+1) true [u8 10,u8 11,.aX .u8 8 (.aw 60),.ptr 13 0,u8 12,.aX .u8 16 (.aw 61),.bool (.nz (.var 13)),u8 14,u8 15,u8 16,.aX .u8 32 (.aw 62),.aX .u8 32 (.aw 63),.aX .u8 32 (.aw 64),
 .cO (.var 17),.cO (.var 18),u64 19,u64 20,u64 21,u64 22,u64 23,.int .u32 (.var 24)]
def kY(i:Nat):List Ck:=[row,.cc true 0 216 59 (.var 3) (qP 0),.cc true 1 76 56 (.var 4) (B1 12),
 .map 5 qg true true [.int .u8 (.lit 0),.int .u8 (.lit 0)] (.aw 49) [c1 50,c1 51],.map 6 qg true true [.aX .u8 32 (.lit 0)] (.aw 52) [⟨.int .u8,32,.aw 53⟩],
 .ni 7 k2 true false [.hU] [(kd 0,[.mp 9]),(kd 1,[.mp 10]),(kd 2,[.mp 11]),(kd 3,[.mp 12])],
 .ni 8 k2 true false [.bT] [(kd 0,[.vv 2]),(kd 1,[.vv 3]),(kd 2,[.vv 4]),(kd 3,[.vv 5])],
 .map (9+i) qg true false [.int .u8 (.lit 0)] (.aw 54) [c1 55],.cc true (2+i) 85 22 (.var 5) (qQ 65),SL i,
 .cc true 6 111 57 (.var 6) (xf 22),.cc true 7 76 56 (.var 7) (B1 32),.cc true 8 85 22 (.var 8) (qQ 42)]
def gX(i:Nat):List SV:=[.ptr 0 0,.int .i64 (.lit i),.agg [.vv 6,.vv 7,.vv 8]]
def jk:cz:={b:=14,v:=9,i:=25,a:=72}
def Vn(c:cz)(h:List Ck):List Ck:=
 match h with
 | .row b w [n,m0,m1,m2,m3,_,d,t,p,e,r,q,x]:: .cc md _ ty s _ _::r'=> .row b w [n,m0,m1,m2,m3,.vv c.v,d,t,p,e,r,q,x]:: .cc md c.v ty s (.var (c.i+1)) (qP c.a)::r'
 | h=>h
def hp2(c:cz)(h:List Ck):List Ck:=
 match h with
 | .row b w [n,m0,m1,m2,m3,f,d,t,p,e,r,q,_]::f'::e':: .map b1 l1 a1 v1 z1 _ _:: .map b2 l2 a2 v2 z2 _ _::r'=>
  .row b w [n,m0,m1,m2,m3,f,d,t,p,e,r,q,.bool (.var c.bo)]::f'::e':: .map b1 l1 a1 v1 z1 (.aw c.a) [c1 (c.a+1),c1 (c.a+2)]:: .map b2 l2 a2 v2 z2 (.aw (c.a+3)) [⟨.int .u8,32,.aw (c.a+4)⟩]::r'
 | h=>h
def ML(v v':Nat):List (Nat×List SV)→List (Nat×List SV)
 | []=>[]
 | (k,[.vv x])::r=>(if x=v then(k,[.vv v'])else(k,[.vv x]))::ML v v' r
 | e::r=>e::ML v v' r
def YO(c:cz)(h:List Ck):List Ck:=
 match h with
 | .row b w [n,m0,m1,m2,m3,f,d,t,p,e,r,q,_]::f'::e'::t'::p'::r7:: .ni b8 l8 a8 v8 z8 es:: .map b9 l9 a9 v9 z9 _ _:: .cc md v ty s _ _::r'=>
  .row b w [n,m0,m1,m2,m3,f,d,t,p,e,r,q,.bool (.var c.bo)]::f'::e'::t'::p'::r7:: .ni b8 l8 a8 v8 z8 (ML v c.v es):: .map b9 l9 a9 v9 z9 (.aw c.a) [c1 (c.a+1)]:: .cc md c.v ty s (.var (c.i+1)) (qQ (c.a+2))::r'
 | h=>h
def loops(f id:Nat):Option mP:=
 match f,id with
 | 101,0=>some {inc:={v:=1,i:=2,a:=12},aV:=fun c=>[(24,.int .i64 (.var c.i))],hp:=Vn}
 | 101,2=>some {inc:={i:=1,a:=5,bo:=1},aV:=fun c=>[(55,.int .i64 (.var c.i))],hp:=hp2}
 | 101,5=>some {inc:={v:=1,i:=2,a:=9,bo:=1},aV:=fun c=>[(163,.int .i64 (.var c.i))],hp:=YO}
 | _,_=>none
end Go.RX.Fr

namespace Go.RX.Cs
open Go.RX Go.RX.Fr
def Vo(i a:Nat):SV:= .agg [u8 i,.aX .u8 16 (.aw a),u8 (i+1),u8 (i+2),u8 (i+3),.aX .u8 32 (.aw (a+1)),.int .u32 (.var (i+4)),.bT,u8 (i+5)]
def hpS:List Ck:=[.row 0 true [.vv 0,.vv 1,.vv 2],.cc true 0 111 57 (.var 0) (xf 0)]
end Go.RX.Cs

namespace Go.RX.Ma
open Go.RX
def u8(i:Nat):SV:= .int .u8 (.var i)
def u64(i:Nat):SV:= .int .u64 (.var i)
def Rp(k:Nat)(_:List SV)(hp:List Ck):List Nat:=
 match hp.findIdx? (fun | .abs i=>i==k | _=>false)with
 | some i=>[i]
 | none=>[]
def has(k:Nat):bh:={use:=Rp k,inc:={bo:=1},val:=fun c=> .bool (.var c.bo),new:=fun _ h=>h}
def note(k:Nat):bh:={use:=Rp k,val:=fun _=> .j7 [],new:=fun _ h=>h}
def mQ:bh:={use:=fun _ _=>[],inc:={a:=1},val:=fun c=> .agg [.aX .u8 32 (.aw c.a)],new:=fun _ _=>[]}
def Eg:List SV→List Ck→List Nat
 | [],_=>[]
 | .sl b _ _ _ _::r,hp=>match findAt hp b with
  | some (i,_)=>i::Eg r hp
  | none=>Eg r hp
 | _::r,hp=>Eg r hp
def B2(l:List SV)(hp:List Ck):List Nat:=
 match l with
 | [.sl b _ _ _ _]=>match findAt hp b with
  | some (j,.row _ _ cs)=>j::Eg cs hp
  | _=>[]
 | _=>[]
def sum:bh:={use:=B2,inc:={a:=1},val:=fun c=> .agg [.aX .u8 32 (.aw c.a)],new:=fun _ h=>h}
def cmp:bh:={use:=Eg,inc:={i:=1},val:=fun c=> .int .i64 (.var c.i),new:=fun _ h=>h}
def calls(f s:Nat):Option bh:=
 match f,s with
 | 50,45=>some (has 0)
 | 87,39=>some (has 0)
 | 88,93=>some (has 1)
 | 51,93=>some (note 0)
 | 91,36=>some (note 0)
 | 93,54=>some (note 0)
 | 89,42=>some (note 1)
 | 88,60=>some mQ
 | 97,30=>some mQ
 | 119,40=>some sum
 | 87,81=>some cmp
 | _,_=>none
def SL(st h_ early:SV):Ck:= .row 0 true [u8 0,u8 1,.aX .u8 8 (.aw 0),.ptr 1 0,st,.aX .u8 16 (.aw 1),.bool (.nz (.var 3)),u8 4,u8 5,u8 6,.aX .u8 32 (.aw 2),.aX .u8 32 (.aw 3),.aX .u8 32 (.aw 4),
 h_,early,u64 9,u64 10,u64 11,u64 12,u64 13,.int .u32 (.var 14)]
def C1:List Ck:=[SL (.int .u8 (.lit 1)) (.ptr 2 0) (.ptr 3 0),.abs 0,.abs 1,.row 2 true [u8 15,.vv 0,.int .i64 (.var 16)],.cc true 0 5 1 (.lit 2) [⟨.int .u8,1,.aw 5⟩]]
def Vo:SV:= .agg [u8 17,.aX .u8 16 (.aw 6),u8 18,u8 19,u8 20,.aX .u8 32 (.aw 7),.int .u32 (.var 21),.bT,u8 22]
end Go.RX.Ma

namespace Go.RX.Ct
open Go.RX Go.RX.Fr
def SM(i a:Nat):Ck:= .row 1 true [u8 i,u8 (i+1),.aX .u8 8 (.aw a),.ptr 2 0,u8 (i+2),.aX .u8 16 (.aw (a+1)),.bool (.nz (.var (i+3))),u8 (i+4),u8 (i+5),u8 (i+6),.aX .u8 32 (.aw (a+2)),.aX .u8 32 (.aw (a+3)),.aX .u8 32 (.aw (a+4)),
 .cO (.var (i+7)),.cO (.var (i+8)),u64 (i+9),u64 (i+10),u64 (i+11),u64 (i+12),u64 (i+13),.int .u32 (.var (i+14))]
end Go.RX.Ct
