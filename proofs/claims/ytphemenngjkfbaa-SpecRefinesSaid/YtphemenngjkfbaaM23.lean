/- The types and functions of the seat's program. -/
import Derived.Test.YtphemenngjkfbaaProg
import Derived.Test.YtphemenngjkfbaaM22
import Derived.OpenShut
open Array renaming getElem?_eq_some_iff → agH
open Go.Proofs.Try renaming prog → agQ
open Int renaming toNat → ag
open List renaming append → agw, getElem?_append_left → agC, getElem?_append_right → agD, getElem?_eq_getElem → ag6, getElem?_eq_some_iff → agx, mem_cons_of_mem → agF, mem_cons_self → agA, range → ag5
open Option.some renaming injEq → agy
namespace Go.RX
open Go.Proofs
set_option maxRecDepth 100000
def TT:List TI:=[
 ⟨3,.int .i64,1,8,[.int .i64 (.lit 0)],[]⟩,
 ⟨4,.bool,1,1,[.bool (.lit false)],[]⟩,
 ⟨5,.int .u8,1,1,[.int .u8 (.lit 0)],[]⟩,
 ⟨22,.slice 32,1,24,[.bY],[]⟩,
 ⟨24,.ptr 134,1,8,[.dR],[]⟩,
 ⟨25,.int .i64,1,8,[.int .i64 (.lit 0)],[]⟩,
 ⟨28,.map 30 5,1,8,[.iJ],[]⟩,
 ⟨30,.struct [(5,0),(5,1)],2,2,[.int .u8 (.lit 0),.int .u8 (.lit 0)],[(some .u8,2)]⟩,
 ⟨32,.struct [(5,0),(30,1),(5,3),(3,4)],5,16,[.int .u8 (.lit 0),.int .u8 (.lit 0),.int .u8 (.lit 0),.int .u8 (.lit 0),.int .i64 (.lit 0)],[(some .u8,4),(some .i64,1)]⟩,
 ⟨40,.func,1,8,[.pE],[]⟩,
 ⟨43,.slice 5,1,24,[.bY],[]⟩,
 ⟨45,.struct [(5,0),(43,1),(3,2)],3,40,[.int .u8 (.lit 0),.bY,.int .i64 (.lit 0)],[]⟩,
 ⟨48,.slice 30,1,24,[.bY],[]⟩,
 ⟨52,.slice 53,1,24,[.bY],[]⟩,
 ⟨53,.int .u16,1,2,[.int .u16 (.lit 0)],[]⟩,
 ⟨54,.ptr 141,1,8,[.dR],[]⟩,
 ⟨60,.ptr 146,1,8,[.dR],[]⟩,
 ⟨63,.func,1,8,[.pE],[]⟩,
 ⟨64,.arr 8 5,8,8,[.a_ .u8 8 (.lit 0)],[(some .u8,8)]⟩,
 ⟨65,.slice 76,1,24,[.bY],[]⟩,
 ⟨66,.ptr 154,1,8,[.dR],[]⟩,
 ⟨68,.map 72 30,1,8,[.iJ],[]⟩,
 ⟨69,.map 72 74,1,8,[.iJ],[]⟩,
 ⟨70,.int .u64,1,8,[.int .u64 (.lit 0)],[]⟩,
 ⟨72,.arr 16 5,16,16,[.a_ .u8 16 (.lit 0)],[(some .u8,16)]⟩,
 ⟨73,.arr 32 5,32,32,[.a_ .u8 32 (.lit 0)],[(some .u8,32)]⟩,
 ⟨74,.arr 32 5,32,32,[.a_ .u8 32 (.lit 0)],[(some .u8,32)]⟩,
 ⟨76,.struct [(5,0),(30,1),(70,3),(72,4),(5,20),(30,21),(74,23),(5,55)],56,72,[.int .u8 (.lit 0),.int .u8 (.lit 0),.int .u8 (.lit 0),.int .u64 (.lit 0),.a_ .u8 16 (.lit 0),.int .u8 (.lit 0),.int .u8 (.lit 0),.int .u8 (.lit 0),.a_ .u8 32 (.lit 0),.int .u8 (.lit 0)],[(some .u8,3),(some .u64,1),(some .u8,52)]⟩,
 ⟨80,.map 72 86,1,8,[.iJ],[]⟩,
 ⟨85,.struct [(72,0),(5,16),(4,17),(5,18),(70,19),(70,20),(70,21)],22,48,[.a_ .u8 16 (.lit 0),.int .u8 (.lit 0),.bool (.lit false),.int .u8 (.lit 0),.int .u64 (.lit 0),.int .u64 (.lit 0),.int .u64 (.lit 0)],[(some .u8,17),(none,1),(some .u8,1),(some .u64,3)]⟩,
 ⟨86,.struct [],0,0,[],[]⟩,
 ⟨93,.func,1,8,[.pE],[]⟩,
 ⟨98,.ptr 172,1,8,[.dR],[]⟩,
 ⟨100,.slice 111,1,24,[.bY],[]⟩,
 ⟨101,.slice 85,1,24,[.bY],[]⟩,
 ⟨103,.struct [(100,0),(65,1),(101,2)],3,72,[.bY,.bY,.bY],[]⟩,
 ⟨107,.int .u32,1,4,[.int .u32 (.lit 0)],[]⟩,
 ⟨109,.struct [(5,0),(72,1),(30,17),(5,19),(74,20),(107,52),(43,53),(5,54)],55,88,[.int .u8 (.lit 0),.a_ .u8 16 (.lit 0),.int .u8 (.lit 0),.int .u8 (.lit 0),.int .u8 (.lit 0),.a_ .u8 32 (.lit 0),.int .u32 (.lit 0),.bY,.int .u8 (.lit 0)],[]⟩,
 ⟨111,.struct [(30,0),(109,2)],57,96,[.int .u8 (.lit 0),.int .u8 (.lit 0),.int .u8 (.lit 0),.a_ .u8 16 (.lit 0),.int .u8 (.lit 0),.int .u8 (.lit 0),.int .u8 (.lit 0),.a_ .u8 32 (.lit 0),.int .u32 (.lit 0),.bY,.int .u8 (.lit 0)],[]⟩,
 ⟨119,.slice 123,1,24,[.bY],[]⟩,
 ⟨120,.ptr 130,1,8,[.dR],[]⟩,
 ⟨123,.struct [(5,0),(5,1),(53,2),(5,3)],4,6,[.int .u8 (.lit 0),.int .u8 (.lit 0),.int .u16 (.lit 0),.int .u8 (.lit 0)],[(some .u8,2),(some .u16,1),(some .u8,1)]⟩,
 ⟨125,.arr 4 98,4,32,[.dR,.dR,.dR,.dR],[]⟩,
 ⟨126,.slice 216,1,24,[.bY],[]⟩,
 ⟨127,.map 30 188,1,8,[.iJ],[]⟩,
 ⟨128,.map 30 101,1,8,[.iJ],[]⟩,
 ⟨130,.struct [(70,0),(125,1),(126,5),(53,6),(68,7),(69,8),(65,9),(127,10),(128,11),(4,12)],13,136,[.int .u64 (.lit 0),.dR,.dR,.dR,.dR,.bY,.int .u16 (.lit 0),.iJ,.iJ,.bY,.iJ,.iJ,.bool (.lit false)],[]⟩,
 ⟨134,.struct [(5,0),(43,1),(3,2)],3,40,[.int .u8 (.lit 0),.bY,.int .i64 (.lit 0)],[]⟩,
 ⟨138,.ptr 45,1,8,[.dR],[]⟩,
 ⟨141,.struct [(52,0),(3,1)],2,32,[.bY,.int .i64 (.lit 0)],[]⟩,
 ⟨144,.slice 3,1,24,[.bY],[]⟩,
 ⟨146,.struct [(144,0),(3,1)],2,32,[.bY,.int .i64 (.lit 0)],[]⟩,
 ⟨151,.map 72 161,1,8,[.iJ],[]⟩,
 ⟨152,.map 30 155,1,8,[.iJ],[]⟩,
 ⟨154,.struct [(64,0),(151,8),(152,9),(70,10)],11,32,[.a_ .u8 8 (.lit 0),.iJ,.iJ,.int .u64 (.lit 0)],[]⟩,
 ⟨155,.ptr 157,1,8,[.dR],[]⟩,
 ⟨157,.struct [(5,0),(72,1),(4,17),(5,18),(30,19),(70,21),(70,22),(80,23),(101,24)],25,72,[.int .u8 (.lit 0),.a_ .u8 16 (.lit 0),.bool (.lit false),.int .u8 (.lit 0),.int .u8 (.lit 0),.int .u8 (.lit 0),.int .u64 (.lit 0),.int .u64 (.lit 0),.iJ,.bY],[]⟩,
 ⟨161,.ptr 163,1,8,[.dR],[]⟩,
 ⟨163,.struct [(30,0),(5,2),(48,3),(4,4),(4,5),(30,6),(4,8),(74,9)],41,72,[.int .u8 (.lit 0),.int .u8 (.lit 0),.int .u8 (.lit 0),.bY,.bool (.lit false),.bool (.lit false),.int .u8 (.lit 0),.int .u8 (.lit 0),.bool (.lit false),.a_ .u8 32 (.lit 0)],[]⟩,
 ⟨168,.ptr 205,1,8,[.dR],[]⟩,
 ⟨170,.ptr 208,1,8,[.dR],[]⟩,
 ⟨172,.struct [(30,0),(64,2),(168,10),(5,11),(72,12),(4,28),(5,29),(30,30),(74,32),(74,64),(74,96),(24,128),(170,129),(70,130),(70,131),(70,132),(70,133),(70,134),(107,135)],136,208,[.int .u8 (.lit 0),.int .u8 (.lit 0),.a_ .u8 8 (.lit 0),.dR,.int .u8 (.lit 0),.a_ .u8 16 (.lit 0),.bool (.lit false),.int .u8 (.lit 0),.int .u8 (.lit 0),.int .u8 (.lit 0),.a_ .u8 32 (.lit 0),.a_ .u8 32 (.lit 0),.a_ .u8 32 (.lit 0),.dR,.dR,.int .u64 (.lit 0),.int .u64 (.lit 0),.int .u64 (.lit 0),.int .u64 (.lit 0),.int .u64 (.lit 0),.int .u32 (.lit 0)],[]⟩,
 ⟨177,.ptr 103,1,8,[.dR],[]⟩,
 ⟨188,.map 72 5,1,8,[.iJ],[]⟩,
 ⟨189,.int .u64,1,8,[.int .u64 (.lit 0)],[]⟩,
 ⟨198,.slice 43,1,24,[.bY],[]⟩,
 ⟨199,.ptr 227,1,8,[.dR],[]⟩,
 ⟨203,.slice 72,1,24,[.bY],[]⟩,
 ⟨205,.struct [(203,0),(3,1)],2,32,[.bY,.int .i64 (.lit 0)],[]⟩,
 ⟨208,.struct [(48,0),(3,1)],2,32,[.bY,.int .i64 (.lit 0)],[]⟩,
 ⟨216,.struct [(30,0),(111,2)],59,104,[.int .u8 (.lit 0),.int .u8 (.lit 0),.int .u8 (.lit 0),.int .u8 (.lit 0),.int .u8 (.lit 0),.a_ .u8 16 (.lit 0),.int .u8 (.lit 0),.int .u8 (.lit 0),.int .u8 (.lit 0),.a_ .u8 32 (.lit 0),.int .u32 (.lit 0),.bY,.int .u8 (.lit 0)],[]⟩,
 ⟨219,.slice 107,1,24,[.bY],[]⟩,
 ⟨221,.slice 70,1,24,[.bY],[]⟩,
 ⟨223,.arr 3 3,3,24,[.a_ .i64 3 (.lit 0)],[(some .i64,3)]⟩,
 ⟨225,.struct [(223,0),(223,3),(223,6),(223,9)],12,96,[.a_ .i64 3 (.lit 0),.a_ .i64 3 (.lit 0),.a_ .i64 3 (.lit 0),.a_ .i64 3 (.lit 0)],[(some .i64,12)]⟩,
 ⟨227,.struct [(219,0),(219,1),(3,2),(225,3)],15,152,[.bY,.bY,.int .i64 (.lit 0),.a_ .i64 3 (.lit 0),.a_ .i64 3 (.lit 0),.a_ .i64 3 (.lit 0),.a_ .i64 3 (.lit 0)],[]⟩,
 ⟨237,.arr 8 107,8,32,[.a_ .u32 8 (.lit 0)],[(some .u32,8)]⟩]
theorem sU:bC agQ TT=true:=by kernel_rfl
noncomputable def FT:List (Nat×Func):=[(2,Try.f2),(3,Try.f3),(4,Try.f4),(5,Try.f5),(6,Try.f6),(7,Try.f7),(8,Try.f8),(9,Try.f9),(10,Try.f10),(11,Try.f11),(12,Try.f12),(13,Try.f13),(14,Try.f14),(15,Try.f15),(16,Try.f16),(17,Try.f17),(18,Try.f18),(19,Try.f19),(20,Try.f20),(21,Try.f21),(22,Try.f22),(23,Try.f23),(24,Try.f24),(25,Try.f25),(26,Try.f26),(27,Try.f27),(28,Try.f28),(29,Try.f29),(30,Try.f30),(31,Try.f31),(32,Try.f32),(33,Try.f33),(34,Try.f34),(35,Try.f35),(36,Try.f36),(37,Try.f37),(38,Try.f38),(39,Try.f39),(40,Try.f40),(41,Try.f41),(42,Try.f42),(43,Try.f43),(44,Try.f44),(45,Try.f45),(46,Try.f46),(47,Try.f47),(48,Try.f48),(49,Try.f49),(50,Try.f50),(51,Try.f51),(52,Try.f52),(53,Try.f53),(54,Try.f54),(55,Try.f55),(56,Try.f56),(57,Try.f57),(58,Try.f58),(59,Try.f59),(60,Try.f60),(61,Try.f61),(62,Try.f62),(63,Try.f63),(64,Try.f64),(65,Try.f65),(66,Try.f66),(67,Try.f67),(68,Try.f68),(69,Try.f69),(70,Try.f70),(71,Try.f71),(72,Try.f72),(73,Try.f73),(74,Try.f74),(75,Try.f75),(76,Try.f76),(77,Try.f77),(78,Try.f78),(79,Try.f79),(80,Try.f80),(81,Try.f81),(82,Try.f82),(83,Try.f83),(84,Try.f84),(85,Try.f85),(86,Try.f86),(87,Try.f87),(88,Try.f88),(89,Try.f89),(90,Try.f90),(91,Try.f91),(92,Try.f92),(93,Try.f93),(94,Try.f94),(95,Try.f95),(96,Try.f96),(97,Try.f97),(98,Try.f98),(99,Try.f99),(100,Try.f100),(101,Try.f101),(102,Try.f102),(103,Try.f103),(104,Try.f104),(105,Try.f105),(106,Try.f106),(107,Try.f107),(108,Try.f108),(109,Try.f109),(110,Try.f110),(111,Try.f111),(112,Try.f112),(113,Try.f113),(114,Try.f114),(115,Try.f115),(116,Try.f116),(117,Try.f117),(118,Try.f118),(119,Try.f119),(120,Try.f120),(121,Try.f121),(122,Try.f122),(123,Try.f123),(124,Try.f124),(125,Try.f125),(126,Try.f126),(127,Try.f127),(128,Try.f128),(129,Try.f129),(130,Try.f130),(131,Try.f131),(132,Try.f132),(133,Try.f133),(134,Try.f134),(135,Try.f135),(137,Try.f137),(138,Try.f138),(139,Try.f139),(140,Try.f140),(141,Try.f141),(142,Try.f142),(143,Try.f143)]
theorem iS:bf
 agQ FT:=
 bf.cons Try.func2 (by kernel_rfl) <|
 bf.cons Try.func3 (by kernel_rfl) <|
 bf.cons Try.func4 (by kernel_rfl) <|
 bf.cons Try.func5 (by kernel_rfl) <|
 bf.cons Try.func6 (by kernel_rfl) <|
 bf.cons Try.func7 (by kernel_rfl) <|
 bf.cons Try.func8 (by kernel_rfl) <|
 bf.cons Try.func9 (by kernel_rfl) <|
 bf.cons Try.func10 (by kernel_rfl) <|
 bf.cons Try.func11 (by kernel_rfl) <|
 bf.cons Try.func12 (by kernel_rfl) <|
 bf.cons Try.func13 (by kernel_rfl) <|
 bf.cons Try.func14 (by kernel_rfl) <|
 bf.cons Try.func15 (by kernel_rfl) <|
 bf.cons Try.func16 (by kernel_rfl) <|
 bf.cons Try.func17 (by kernel_rfl) <|
 bf.cons Try.func18 (by kernel_rfl) <|
 bf.cons Try.func19 (by kernel_rfl) <|
 bf.cons Try.func20 (by kernel_rfl) <|
 bf.cons Try.func21 (by kernel_rfl) <|
 bf.cons Try.func22 (by kernel_rfl) <|
 bf.cons Try.func23 (by kernel_rfl) <|
 bf.cons Try.func24 (by kernel_rfl) <|
 bf.cons Try.func25 (by kernel_rfl) <|
 bf.cons Try.func26 (by kernel_rfl) <|
 bf.cons Try.func27 (by kernel_rfl) <|
 bf.cons Try.func28 (by kernel_rfl) <|
 bf.cons Try.func29 (by kernel_rfl) <|
 bf.cons Try.func30 (by kernel_rfl) <|
 bf.cons Try.func31 (by kernel_rfl) <|
 bf.cons Try.func32 (by kernel_rfl) <|
 bf.cons Try.func33 (by kernel_rfl) <|
 bf.cons Try.func34 (by kernel_rfl) <|
 bf.cons Try.func35 (by kernel_rfl) <|
 bf.cons Try.func36 (by kernel_rfl) <|
 bf.cons Try.func37 (by kernel_rfl) <|
 bf.cons Try.func38 (by kernel_rfl) <|
 bf.cons Try.func39 (by kernel_rfl) <|
 bf.cons Try.func40 (by kernel_rfl) <|
 bf.cons Try.func41 (by kernel_rfl) <|
 bf.cons Try.func42 (by kernel_rfl) <|
 bf.cons Try.func43 (by kernel_rfl) <|
 bf.cons Try.func44 (by kernel_rfl) <|
 bf.cons Try.func45 (by kernel_rfl) <|
 bf.cons Try.func46 (by kernel_rfl) <|
 bf.cons Try.func47 (by kernel_rfl) <|
 bf.cons Try.func48 (by kernel_rfl) <|
 bf.cons Try.func49 (by kernel_rfl) <|
 bf.cons Try.func50 (by kernel_rfl) <|
 bf.cons Try.func51 (by kernel_rfl) <|
 bf.cons Try.func52 (by kernel_rfl) <|
 bf.cons Try.func53 (by kernel_rfl) <|
 bf.cons Try.func54 (by kernel_rfl) <|
 bf.cons Try.func55 (by kernel_rfl) <|
 bf.cons Try.func56 (by kernel_rfl) <|
 bf.cons Try.func57 (by kernel_rfl) <|
 bf.cons Try.func58 (by kernel_rfl) <|
 bf.cons Try.func59 (by kernel_rfl) <|
 bf.cons Try.func60 (by kernel_rfl) <|
 bf.cons Try.func61 (by kernel_rfl) <|
 bf.cons Try.func62 (by kernel_rfl) <|
 bf.cons Try.func63 (by kernel_rfl) <|
 bf.cons Try.func64 (by kernel_rfl) <|
 bf.cons Try.func65 (by kernel_rfl) <|
 bf.cons Try.func66 (by kernel_rfl) <|
 bf.cons Try.func67 (by kernel_rfl) <|
 bf.cons Try.func68 (by kernel_rfl) <|
 bf.cons Try.func69 (by kernel_rfl) <|
 bf.cons Try.func70 (by kernel_rfl) <|
 bf.cons Try.func71 (by kernel_rfl) <|
 bf.cons Try.func72 (by kernel_rfl) <|
 bf.cons Try.func73 (by kernel_rfl) <|
 bf.cons Try.func74 (by kernel_rfl) <|
 bf.cons Try.func75 (by kernel_rfl) <|
 bf.cons Try.func76 (by kernel_rfl) <|
 bf.cons Try.func77 (by kernel_rfl) <|
 bf.cons Try.func78 (by kernel_rfl) <|
 bf.cons Try.func79 (by kernel_rfl) <|
 bf.cons Try.func80 (by kernel_rfl) <|
 bf.cons Try.func81 (by kernel_rfl) <|
 bf.cons Try.func82 (by kernel_rfl) <|
 bf.cons Try.func83 (by kernel_rfl) <|
 bf.cons Try.func84 (by kernel_rfl) <|
 bf.cons Try.func85 (by kernel_rfl) <|
 bf.cons Try.func86 (by kernel_rfl) <|
 bf.cons Try.func87 (by kernel_rfl) <|
 bf.cons Try.func88 (by kernel_rfl) <|
 bf.cons Try.func89 (by kernel_rfl) <|
 bf.cons Try.func90 (by kernel_rfl) <|
 bf.cons Try.func91 (by kernel_rfl) <|
 bf.cons Try.func92 (by kernel_rfl) <|
 bf.cons Try.func93 (by kernel_rfl) <|
 bf.cons Try.func94 (by kernel_rfl) <|
 bf.cons Try.func95 (by kernel_rfl) <|
 bf.cons Try.func96 (by kernel_rfl) <|
 bf.cons Try.func97 (by kernel_rfl) <|
 bf.cons Try.func98 (by kernel_rfl) <|
 bf.cons Try.func99 (by kernel_rfl) <|
 bf.cons Try.func100 (by kernel_rfl) <|
 bf.cons Try.func101 (by kernel_rfl) <|
 bf.cons Try.func102 (by kernel_rfl) <|
 bf.cons Try.func103 (by kernel_rfl) <|
 bf.cons Try.func104 (by kernel_rfl) <|
 bf.cons Try.func105 (by kernel_rfl) <|
 bf.cons Try.func106 (by kernel_rfl) <|
 bf.cons Try.func107 (by kernel_rfl) <|
 bf.cons Try.func108 (by kernel_rfl) <|
 bf.cons Try.func109 (by kernel_rfl) <|
 bf.cons Try.func110 (by kernel_rfl) <|
 bf.cons Try.func111 (by kernel_rfl) <|
 bf.cons Try.func112 (by kernel_rfl) <|
 bf.cons Try.func113 (by kernel_rfl) <|
 bf.cons Try.func114 (by kernel_rfl) <|
 bf.cons Try.func115 (by kernel_rfl) <|
 bf.cons Try.func116 (by kernel_rfl) <|
 bf.cons Try.func117 (by kernel_rfl) <|
 bf.cons Try.func118 (by kernel_rfl) <|
 bf.cons Try.func119 (by kernel_rfl) <|
 bf.cons Try.func120 (by kernel_rfl) <|
 bf.cons Try.func121 (by kernel_rfl) <|
 bf.cons Try.func122 (by kernel_rfl) <|
 bf.cons Try.func123 (by kernel_rfl) <|
 bf.cons Try.func124 (by kernel_rfl) <|
 bf.cons Try.func125 (by kernel_rfl) <|
 bf.cons Try.func126 (by kernel_rfl) <|
 bf.cons Try.func127 (by kernel_rfl) <|
 bf.cons Try.func128 (by kernel_rfl) <|
 bf.cons Try.func129 (by kernel_rfl) <|
 bf.cons Try.func130 (by kernel_rfl) <|
 bf.cons Try.func131 (by kernel_rfl) <|
 bf.cons Try.func132 (by kernel_rfl) <|
 bf.cons Try.func133 (by kernel_rfl) <|
 bf.cons Try.func134 (by kernel_rfl) <|
 bf.cons Try.func135 (by kernel_rfl) <|
 bf.cons Try.func137 (by kernel_rfl) <|
 bf.cons Try.func138 (by kernel_rfl) <|
 bf.cons Try.func139 (by kernel_rfl) <|
 bf.cons Try.func140 (by kernel_rfl) <|
 bf.cons Try.func141 (by kernel_rfl) <|
 bf.cons Try.func142 (by kernel_rfl) <|
 bf.cons Try.func143 (by kernel_rfl) <|
 bf.nil
theorem sV:Try.prog.follows .mixedOrders=true:=by kernel_rfl
def aB(a b:List HP):Prop:= ∀(w:World) (Fs:List HP),aU (a++Fs) w→aU (b++Fs) w
theorem aB.refl(a:List HP):aB a a:=fun _ _ h=>h
theorem aB.trans{a b c:List HP}(h:aB a b)(k:aB b c):aB a c:=fun w Fs o=>k w Fs (h w Fs o)
theorem Sk{α:Type}{a b:List α}(h:b.Sublist a): ∃f:Nat→Nat,(∀i j,f i=f j→i=j)∧∀(j:Nat) x,b[j]? =some x→a[f j]? =some x:=by
 induction h with
 | slnil=>exact⟨id,fun _ _ h=>h,fun _ _ h=>h⟩
 | cons x _ ih=>
  obtain⟨f,h1,h2⟩:=ih;exact⟨fun j=>f j+1,fun i j h=>h1 i j (by simpa using h),fun j y hy=>by simpa using h2 j y hy⟩
 | cons_cons x _ ih=>
  obtain⟨f,h1,h2⟩:=ih;refine⟨fun j=>match j with | 0=>0 | j+1=>f j+1,fun i j h=>?_,fun j y hy=>?_⟩
  ·cases i<;>cases j<;>simp at h ⊢
   exact h1 _ _ h
  ·cases j with
   | zero=>simpa using hy
   | succ j=>simpa using h2 j y (by simpa using hy)
theorem aU.sub{a b:List HP}{w:World}(h:aU a w)(hs:b.Sublist a):aU b w:=by
 obtain⟨f,h1,h2⟩:=Sk hs;refine h.tf (fun j=>some (f j)) (fun j x hx=> .inr ⟨f j,rfl,h2 j x hx⟩) ?_;intro j j' i hj lW _ _;cases hj;simp only [agy]at lW;exact h1 _ _ lW.symm
theorem aB.sub{a b:List HP}(h:b.Sublist a):aB a b:=fun _ _ o=>o.sub (List.Sublist.append h (List.Sublist.refl _))
theorem aB.put{a:List HP}(i:Nat)(h0 h':HP)(hi:a[i]? =some h0)(hw:h'.wr=true→h0.wr=true)(hp: ∀w S,h0.p w S→∃S':Nat→Prop,(∀k,S' k→S k)∧h'.p w S'):aB a (a.set i h'):=by
 intro w Fs ⟨S,hS⟩;have cZ:i<a.length:=(agx.1 hi).1;obtain⟨S',h1,h2⟩:=hp _ _ (hS.at_ i h0 (by rw [agC cZ];exact hi)).1;exact aU.weaken hS i h0 h' hi hw S' h1 h2
theorem au.post{P:Program}{f:Nat}{args:List Value}{pre:List HP}{p q:Value→List HP→Prop}(h:au P f args pre p)(hpq: ∀v hs,p v hs→∃ey,aB hs ey∧q v ey):au P f args pre q:=by
 intro w Fs o;refine(h w Fs o).mono ?_;rintro e w' ⟨v,hs,he,hp,ho,ey⟩;obtain⟨vw,h1,h2⟩:=hpq v hs hp;exact⟨v,vw,he,h2,h1 _ _ ho,ey⟩
theorem au.pre{P:Program}{f:Nat}{args:List Value}{pre Ik:List HP}{p:Value→List HP→Prop}(h:au P f args Ik p)(he:aB pre Ik):au P f args pre p:=
 fun w Fs o=>h w Fs (he _ _ o)
theorem au.jo{P:Program}{C:Ctx}(hT:bC P C.T=true)(DB:bf P C.FT)(hm:P.follows .mixedOrders=true){f:Nat}{fd:Func}(hf:P.funcs[f]? =some fd)
  (h:(eE C f [] [] {} fd).jo=true) (Gr:gN P C:=by exact gN.none rfl):au P f [] [] (fun v hs=>v= .bool true∧hs=[]):=by
 have:=au.ml (aq:=fun v _=>v= .bool true) (ρ:=uk) (args:=[]) (hp:=[]) hT DB hm hf (by constructor<;>rfl) (F.IN _ _ h) Gr;exact this.post fun v hs h=>⟨[],aB.sub (List.nil_sublist _),h,rfl⟩
theorem Ky{w:World}{t s n k:Nat}{v:Value}{cs:List Value}{S:Nat→Prop}(h:(aC true t s v n cs).p w S)(hk:k≤n):
  (aC true t s (bT s v 0 k none) k (cs.take (k*s))).p w S:=by
 have hw:=mu.whole (ρ:=uk) (s:=s) (v:=v) (n:= .lit n) (by simpa [E.den] using mM h);have lG:=hw.step ⟨.lit 0,.lit k,none⟩ (fun b hb=>by
  simp only [gS,dV]at hb;have: ∀(x y:Int),x≤y→∀b∈eh (.lit x) (.lit y),b.prop uk:=by
   intro x y XX b hb;unfold eh at hb;split at hb
   ·cases hb
   ·simp [yM,XX]at hb
  rcases List.mem_append.1 hb with hb | hb
  ·rcases List.mem_append.1 hb with hb | hb
   ·exact this 0 0 (Int.le_refl _) b hb
   ·exact this 0 k (by omega) b hb
  ·exact this (0+k) n (by omega) b hb)
 have eu:=lG.1;obtain⟨cU,kP⟩:=h;simp only [if_true]at cU;have hx:bT s v (E.den uk (.lit 0) 0).toNat (E.den uk (.lit k) 0).toNat (Option.map (fun m=>(E.den uk m 0).toNat) none)=bT s v 0 k none:=by simp [E.den]
 rw [hx]at eu;have hln:((E.lit (n:Int)).den uk 0).toNat=n:=by simp [E.den]
 rw [←hln]at cU;obtain⟨o1,o2⟩:=rm eu (by simp [gS,tT,E.den]) cU;rw [show((gS (.lit (n:Int)) ⟨.lit 0,.lit (n:Int),none⟩ ⟨.lit 0,.lit (k:Int),none⟩).1.lo.den uk 0).toNat=0 by simp [gS,dV,E.den],Nat.zero_mul,List.drop_zero]at o1;have hlk:((gS (.lit (n:Int)) ⟨.lit 0,.lit (n:Int),none⟩ ⟨.lit 0,.lit (k:Int),none⟩).1.len.den uk 0).toNat=k:=by simp [gS,tT,E.den]
 rw [hlk]at o1;refine⟨?_,fun q=>?_⟩
 ·simp only [if_true];exact o1
 ·rw [o2,kP q];simp
def Gu(P:Program)(g:TypeId→Option (List (Option IntKind))):List Field→Nat→Option (List (Option IntKind))
 | [],_=>some []
 | f::r,off=>match g f.type,Gu P g r (off+P.cellsOf f.type)with
  | some ks,some l=>if f.offset=off∧P.cellsOf f.type=ks.length then some (ks++l)else none
  | _,_=>none
def flat(P:Program):Nat→TypeId→Option (List (Option IntKind))
 | 0,_=>none
 | n+1,t=>match P.underlying t with
  | some (.int k)=>some [some k]
  | some .bool=>some [none]
  | some (.struct fs)=>Gu P (flat P n) fs.toList 0
  | _=>none
def AG:Option IntKind→Int→Value
 | some k,n=> .int k n
 | none,n=> .bool (!(n==0))
def rn:Option IntKind→Int→Prop
 | some k,n=>(Lit.int k n).wf=true
 | none,_=>True
def IP(k:Option IntKind)(v:Value):Prop:= ∃n,v=AG k n∧rn k n
section
variable {H:Type} {enc:TypeId×Value→H} {P:Program} {w:World} {base:Nat} {spare:Nat→Bool} {held:Bool}
theorem AH{g:TypeId→Option (List (Option IntKind))}{cs:List Value}(hg: ∀t ks wG,g t=some ks→(∃n x,DataW.trod enc P w base spare held n t wG=some x)→∀(j:Nat) k,ks[j]? =some k→∃v,wG[j]? =some v∧IP k v):
  ∀{fs:List Field} {off:Nat} {ks:List (Option IntKind)},Gu P g fs off=some ks→(∀f∈fs,∃n x,DataW.trod enc P w base spare held n f.type ((cs.drop f.offset).take (P.cellsOf f.type))=some x)→
   ∀(j:Nat) k,ks[j]? =some k→∃v,cs[off+j]? =some v∧IP k v
 | [],off,ks,h,_,j,k,hk=>by
  simp only [Gu,agy]at h;subst h;simp at hk
 | f::r,off,ks,h,hf,j,k,hk=>by
  unfold Gu at h;split at h
  ·rename_i k1 l h1 h2;split at h
   ·rename_i hc;obtain⟨rfl,RJ⟩:=hc;cases h;by_cases hj:j<k1.length
    ·rw [agC hj]at hk;obtain⟨v,hv,mY⟩:=hg _ _ _ h1 (hf f agA) j k hk;refine⟨v,?_,mY⟩;rw [List.getElem?_take]at hv;split at hv
     ·rw [List.getElem?_drop]at hv;exact hv
     ·cases hv
    ·rw [agD (by omega)]at hk;obtain⟨v,hv,mY⟩:=AH hg h2 (fun f' Gf=>hf f' (agF _ Gf)) _ k hk;refine⟨v,?_,mY⟩;rw [←hv,RJ];congr 1;omega
   ·cases h
  ·cases h
theorem DC: ∀{n:Nat} {t:TypeId} {ks:List (Option IntKind)} {cs:List Value},flat P n t=some ks→(∃m x,DataW.trod enc P w base spare held m t cs=some x)→∀(j:Nat) k,ks[j]? =some k→∃v,cs[j]? =some v∧IP k v
 | 0,_,_,_,h,_,_,_,_=>by cases h
 | n+1,t,ks,cs,h,⟨m,x,hx⟩,j,k,hk=>by
  unfold flat at h;split at h
  ·rename_i kk ht;cases h;obtain⟨z,rfl,_,hw⟩:=DataW.trod_int ht hx
   match j,hk with
   | 0,hk=>
    simp at hk;subst hk;exact⟨_,rfl,z,rfl,hw⟩
   | j+1,hk=>simp at hk
  ·rename_i ht;cases h;cases m with
   | zero=>simp [DataW.trod]at hx
   | succ m=>
    have hb: ∃b,cs=[.bool b]:=by
     unfold DataW.trod at hx;rw [ht]at hx;split at hx<;>simp_all
    obtain⟨b,rfl⟩:=hb
    match j,hk with
    | 0,hk=>
     simp at hk;subst hk;exact⟨_,rfl,if b then 1 else 0,by cases b<;>rfl,trivial⟩
    | j+1,hk=>simp at hk
  ·rename_i fs ht;obtain⟨ys,n',_,_,_,W0,hf⟩:=DataW.trod_struct ht hx;have:=AH (cs:=cs) (fun t ks wG h1 h2=>DC (n:=n) h1 h2) h (fun f Gf=>by
    obtain⟨i,hi⟩:=List.getElem?_of_mem Gf;have oq:fs[i]? =some f:=by rw [←hi,Array.getElem?_toList]
    have h1:=hf i f oq;have FA:i<fs.size:=(agH.1 oq).1;exact⟨n',ys[i]'(by omega),h1.trans (ag6 _)⟩) j k hk
   simpa using this
  ·cases h
end
def Kz(ks:List (Option IntKind))(w:World)(a:Option Addr)(len cap:Nat)(F:Nat→Nat→Int):Prop:=
 (a=none∧len=0∧cap=0)∨
 ∃x,a=some x∧len≤cap∧cap≤maxLen∧∀i,i<len→∀(j:Nat) k,ks[j]? =some k→w.cell? (x.add (i*ks.length+j))=some (AG k (F i j))∧rn k (F i j)
theorem Oz{H:Type}{enc:TypeId×Value→H}{P:Program}{w:World}{base:Nat}{spare:Nat→Bool}{held:Bool}{t e:TypeId}{n:Nat}{ks:List (Option IntKind)}{fuel:Nat}{cs:List Value}{x:DataW H×List MemPlace}
  (ht:P.underlying t=some (.slice e)) (he:flat P n e=some ks) (hc:P.cellsOf e=ks.length) (h:DataW.trod enc P w base spare held fuel t cs=some x):
  ∃a len cap F,cs=[.slice a len cap]∧Kz ks w a len cap F:=by
 rcases DataW.trod_slice ht h with⟨rfl,_⟩ | ⟨a,len,cap,elems,rest,m,_,rfl,_,hb,hl,hm,hlen,W3,_,_⟩
 ·exact⟨none,0,0,fun _ _=>0,rfl,.inl ⟨rfl,rfl,rfl⟩⟩
 have key: ∀i j,∃z:Int,i<len→∀k,ks[j]? =some k→w.cell? (a.add (i*ks.length+j))=some (AG k z)∧rn k z:=by
  intro i j;by_cases hi:i<len
  ·cases hk:ks[j]? with
   | none=>exact⟨0,fun _ k jK=>by cases jK⟩
   | some k=>
    have h1:=W3 i hi;have hg:elems[i]? =some (elems[i]'(by omega)):=ag6 (by omega);rw [hg,Option.bind_eq_some_iff]at h1;obtain⟨wG,l6,htr⟩:=h1;obtain⟨v,hv,z,rfl,hz⟩:=DC he ⟨_,_,htr⟩ j k hk;obtain⟨_,eL,ew⟩:=World.cells?_some l6;have Az:j<ks.length:=(agx.1 hk).1;refine⟨z,fun _ k' jK=>?_⟩;cases jK;refine⟨?_,hz⟩;have:=ew j (by rw [hc];exact Az);rw [hv,hc,dK]at this;exact this
  ·exact⟨0,fun h=>absurd h hi⟩
 refine⟨some a,len,cap,fun i j=>(key i j).choose,rfl,.inr ⟨a,rfl,hl,hm,fun i hi j k hk=>(key i j).choose_spec hi k hk⟩⟩
def OA(k:Option IntKind)(f:Nat→Int):Nat→List Value:=
 match k with
 | some k=>ax k 1 f
 | none=>oh 1 f
theorem OB(k:Option IntKind)(f:Nat→Int)(i:Nat):OA k f i=[AG k (f i)]:=by
 cases k<;>simp [OA,ax,oh,ak,AG]
def ez:List (Option IntKind)→(Nat→Nat→Int)→List (Nat→List Value)
 | [],_=>[]
 | k::r,F=>OA k (fun i=>F i 0)::ez r fun i j=>F i (j+1)
theorem vB: ∀{ks:List (Option IntKind)} {F:Nat→Nat→Int} {i:Nat},((ez ks F).flatMap fun c=>c i).length=ks.length∧∀(j:Nat) u,((ez ks F).flatMap fun c=>c i)[j]? =some u→∃k,ks[j]? =some k∧u=AG k (F i j)
 | [],F,i=>⟨rfl,fun j u h=>by simp [ez]at h⟩
 | k::r,F,i=>by
  obtain⟨h1,h2⟩:=vB (ks:=r) (F:=fun i j=>F i (j+1)) (i:=i);simp only [ez,List.flatMap_cons,OB,List.singleton_append];refine⟨by simp only [List.length_cons,h1],fun j u h=>?_⟩;cases j with
  | zero=>simp at h;exact⟨k,rfl,h.symm⟩
  | succ j=>exact h2 j u (by simpa using h)
theorem IQ{ks:List (Option IntKind)}{F:Nat→Nat→Int}: ∀{n:Nat},(aT n (ez ks F)).length=n*ks.length∧∀(m:Nat) u,(aT n (ez ks F))[m]? =some u→∃i j k,i<n∧ks[j]? =some k∧m=i*ks.length+j∧u=AG k (F i j)
 | 0=>⟨by simp [aT],fun m u h=>by simp [aT]at h⟩
 | n+1=>by
  obtain⟨h1,h2⟩:=IQ (ks:=ks) (F:=F) (n:=n);have e:aT (n+1) (ez ks F)=aT n (ez ks F)++(ez ks F).flatMap fun c=>c n:=by
   simp [aT,List.range_succ,List.flatMap_append]
  obtain⟨h3,h4⟩:=vB (ks:=ks) (F:=F) (i:=n);rw [e];refine⟨by rw [List.length_append,h1,h3,Nat.succ_mul],fun m u h=>?_⟩;by_cases hm:m<(aT n (ez ks F)).length
  ·rw [agC hm]at h;obtain⟨i,j,k,q1,q2,q3,q4⟩:=h2 m u h;exact⟨i,j,k,by omega,q2,q3,q4⟩
  ·rw [agD (by omega)]at h;obtain⟨k,q1,q2⟩:=h4 _ u h;refine⟨n,_,k,by omega,q1,?_,q2⟩;rw [h1]at hm ⊢;omega
theorem OC{ks:List (Option IntKind)}{w:World}{a:Option Addr}{len cap:Nat}{F:Nat→Nat→Int}(h:Kz ks w a len cap F)(hk:0<ks.length)(t:Nat):
  aU ([aC false t ks.length (.slice a len cap) len (aT len (ez ks F))]++[Eh w.heap.size w]) w:=by
 have sP: ∃k,ks[0]? =some k:=⟨_,ag6 hk⟩;obtain⟨k0,sP⟩:=sP;have h1:(aC false t ks.length (.slice a len cap) len (aT len (ez ks F))).p w (fun b=>(Value.slice a len cap).ownBlock=some b∧0<len):=by
  refine⟨?_,fun b=>by simp⟩;simp only [Bool.false_eq_true,if_false];refine⟨IQ.1,a,len,cap,rfl,rfl,?_,?_,?_⟩
  ·rcases h with⟨_,rfl,rfl⟩ | ⟨x,_,h,_⟩
   ·exact Nat.le_refl _
   ·exact h
  ·rintro rfl;rcases h with⟨_,h,_⟩ | ⟨x,h,_⟩
   ·exact h
   ·cases h
  ·rintro ad rfl;rcases h with⟨h,_⟩ | ⟨x,h,hl,_,hc⟩
   ·cases h
   ·cases h;constructor
    ·intro yN;have h0:=(hc 0 yN 0 k0 sP).1;rw [Nat.zero_mul,Nat.zero_add,lv]at h0;exact World.cell?_spot h0
    ·intro j u hu;obtain⟨i,j',k,q1,q2,rfl,rfl⟩:=IQ.2 j u hu;exact(hc i q1 j' k q2).1
 have h2: ∀b,(Value.slice a len cap).ownBlock=some b∧0<len→b<w.heap.size:=by
  rintro b ⟨hb,yN⟩;rcases h with⟨rfl,rfl,_⟩ | ⟨x,rfl,hl,_,hc⟩
  ·omega
  ·simp only [Value.ownBlock,agy]at hb;subst hb;have:=World.block_lt_of_cell? w _ (hc 0 yN 0 k0 sP).1;rw [Nat.zero_mul,Nat.zero_add,lv]at this;exact this
 refine⟨fun i b=>if i=0 then(Value.slice a len cap).ownBlock=some b∧0<len else b<w.heap.size,⟨?_,?_⟩⟩
 ·intro i hp hi
  match i,hi with
  | 0,hi=>simp at hi;subst hi;exact⟨h1,h2⟩
  | 1,hi=>simp at hi;subst hi;exact⟨⟨fun _=>Iff.rfl,fun _ _=>rfl⟩,fun _ h=>h⟩
  | i+2,hi=>simp at hi
 ·intro i j x y eJ hi hj y_;exfalso;have key: ∀(i:Nat) (x:HP),([aC false t ks.length (.slice a len cap) len (aT len (ez ks F))]++[Eh w.heap.size w])[i]? =some x→x.wr=false:=by
   intro i x hi
   match i,hi with
   | 0,hi=>simp at hi;subst hi;rfl
   | 1,hi=>simp at hi;subst hi;rfl
   | i+2,hi=>simp at hi
  rw [key i x hi,key j y hj]at y_;simp at y_
theorem au.bare{P:Program}{C:Ctx}(hT:bC P C.T=true)(DB:bf P C.FT)(hm:P.follows .mixedOrders=true){f:Nat}{fd:Func}(hf:P.funcs[f]? =some fd)(Q:Value→List HP→Prop)
  {g:F} {s:Prop} (e:eE C f [] [] {b:=0,v:=0,i:=0,a:=0,bo:=0,p:=0,r:=0} fd=g) (hv:VC P (fun v _=>Q v []) g {iv:=[],av:=[],bo:=[],bv:=[],vv:=[]} (fun _=>LC.none)=s) (hs:s) (Gr:gN P C:=by exact gN.none rfl):au P f [] [] (fun v hs=>Q v []∧hs=[]):=by
 subst e;subst hv;have:=au.ml (aq:=fun v _=>Q v []) (ρ:={}) (args:=[]) (hp:=[]) hT DB hm hf (by constructor<;>rfl) hs Gr;exact this.post fun v hs h=>⟨[],aB.sub (List.nil_sublist _),h,rfl⟩
theorem au.d_{P:Program}{C:Ctx}(hT:bC P C.T=true)(DB:bf P C.FT)(hm:P.follows .mixedOrders=true){f:Nat}{fd:Func}(hf:P.funcs[f]? =some fd){aq:Value→List HP→Prop}{args:List SV}{hp:List Ck}{aS:cF}{ρ:Env}(hl:gK ρ aS)
  {g:F} {s:Prop} (e:eE C f args hp aS fd=g) (hv:VC P aq g ρ (fun _=>LC.none)=s) (hs:s) (Gr:gN P C:=by exact gN.none rfl):au P f (SV.bQ ρ args) (hp.map (Ck.den ρ)) aq:=by
 subst e;subst hv;exact au.ml hT DB hm hf hl hs Gr
section
variable {H:Type} {enc:TypeId×Value→H} {P:Program} {w:World} {base:Nat} {spare:Nat→Bool} {held:Bool}
end
abbrev cc(l:List (Nat→List Value))(i:Nat):List Value:=l.flatMap fun c=>c i
end Go.RX

namespace Go
abbrev Value.pp(b:Nat):Value:= .pointer (some ⟨b,0,none⟩)
namespace RX
open Go.Proofs
section
variable {C:Ctx} {f:Nat} {fd:Func} (args:List SV) (hp:List Ck) (aS:cF) (ρ:Env) {aq:Value→List HP→Prop} {s:Prop}
theorem mtB(hf:Try.prog.funcs[f]? =some fd)(hv:VC agQ (fun v _=>aq v []) (eE C f args hp aS fd) ρ (fun _=>LC.none)=s)(h:s)(hT:bC agQ C.T=true:=by exact sU)(DB:bf agQ C.FT:=by exact iS)(hl:gK ρ aS:=by constructor<;>rfl)
  (Gr:gN agQ C:=by exact gN.none rfl):au agQ f (SV.bQ ρ args) (hp.map (Ck.den ρ)) aq:=
 au.post (au.d_ (C:=C) hT DB sV hf hl rfl hv h Gr) fun _ hs hq=>⟨_,aB.sub (List.nil_sublist hs),hq⟩
theorem mtK(k:Nat)(hf:Try.prog.funcs[f]? =some fd)(hv:VC agQ (fun v hs=>aq v (hs.take k)) (eE C f args hp aS fd) ρ (fun _=>LC.none)=s)(h:s)(hT:bC agQ C.T=true:=by exact sU)(DB:bf agQ C.FT:=by exact iS)(hl:gK ρ aS:=by constructor<;>rfl)
  (Gr:gN agQ C:=by exact gN.none rfl):au agQ f (SV.bQ ρ args) (hp.map (Ck.den ρ)) aq:=
 au.post (au.d_ (C:=C) hT DB sV hf hl rfl hv h Gr) fun _ hs hq=>⟨_,aB.sub (List.take_sublist k hs),hq⟩
theorem um(hf:Try.prog.funcs[f]? =some fd)(hv:VC agQ aq (eE C f args hp aS fd) ρ (fun _=>LC.none)=s)(h:s)(hT:bC agQ C.T=true:=by exact sU)(DB:bf agQ C.FT:=by exact iS)(hl:gK ρ aS:=by constructor<;>rfl)
  (Gr:gN agQ C:=by exact gN.none rfl):au agQ f (SV.bQ ρ args) (hp.map (Ck.den ρ)) aq:=
 au.d_ (C:=C) hT DB sV hf hl rfl hv h Gr
end
abbrev bo(v:V1)(n:Int)(A:Nat→Int):HP:=aC true 5 1 v.v n.toNat (aT n.toNat [ax .u8 1 A])
abbrev bn(md:Bool)(v:V1)(n:Nat)(A:Nat→Int):HP:=aC md 5 1 v.v n (aT n [ax .u8 1 A])
abbrev Cl(P:Program)(f:Nat)(a:List Value)(L:List HP)(K:Value→List HP→List HP→Prop):Prop:= ∃post,au P f a L post∧∀x hs,post x hs→K x hs L
abbrev sL(x:Int)(p:Prop):Prop:=aE (-9223372036854775808≤x) (aE (x≤9223372036854775807) p)
abbrev NL(x:Int)(p:Prop):Prop:=aE (x≤140737488355328) p
abbrev _root_.Go.Value.sg(n:Nat)(A:Nat→Int):Value:= .agg (agw (ak .u8 n A) []).toArray
abbrev _root_.Go.Value.dv(x y:Int):Value:= .agg #[.int .u8 x,.int .u8 y]
abbrev Dw(b:Nat)(x y:Int):HP:=ao b true [.int .u8 x,.int .u8 y]
abbrev Sg(k:Int)(A:Nat→Int)(f g h:Int)(B:Nat→Int)(x y:Int):List Value:= .int .u8 k::(agw (ak .u8 16 A) (.int .u8 f::(.int .u8 g::(.int .u8 h::(agw (ak .u8 32 B) [.int .u32 x,.slice none 0 0,.int .u8 y])))))
abbrev Mw(b:Nat)(a d:Int)(A:Nat→Int)(e:Nat)(s:Int)(B:Nat→Int)(o:Bool)(p q r:Int)(U V W:Nat→Int)(f g:Value)(t u v w x y:Int):HP:=
 ao b true (.int .u8 a::(.int .u8 d::(agw (ak .u8 8 A) (.pp e::(.int .u8 s::(agw (ak .u8 16 B) (.bool o::(.int .u8 p::(.int .u8 q::(.int .u8 r::(agw (ak .u8 32 U) (agw (ak .u8 32 V) (agw (ak .u8 32 W) [f,g,.int .u64 t,.int .u64 u,.int .u64 v,.int .u64 w,.int .u64 x,.int .u32 y])))))))))))))
abbrev Fw(b:Nat)(n:Int)(i j k l:Nat)(v:Value)(d:Int)(t p:Nat)(e:Value)(r q:Nat)(o:Bool):HP:=ao b true [.int .u64 n,.pp i,.pp j,.pp k,.pp l,v,.int .u16 d,.map (some t),.map (some p),e,.map (some r),.map (some q),.bool o]
abbrev Hw(b:Nat)(v w:Value):HP:=ao b true [v,w,.int .i64 4,.int .i64 2,.int .i64 13,.int .i64 22,.int .i64 6,.int .i64 11,.int .i64 25,.int .i64 7,.int .i64 18,.int .i64 3,.int .i64 17,.int .i64 19,.int .i64 10]
abbrev Uw(v:Value)(n:Nat)(A:Nat→Int):HP:=aC true 107 1 v n (aT n [ax .u32 1 A])
abbrev Fl(v:Value)(n:Nat)(A B C D E F G H I J K L:Nat→Int):HP:=aC true 216 59 v n (aT n [ax .u8 1 A,ax .u8 1 B,ax .u8 1 C,ax .u8 1 D,ax .u8 1 E,ax .u8 16 F,ax .u8 1 G,ax .u8 1 H,ax .u8 1 I,ax .u8 32 J,ax .u32 1 K,dC 1 (fun _=> .slice none 0 0),ax .u8 1 L])
end RX
end Go

namespace Go.RX
open Go.Proofs
abbrev X8:List IntKind:=[.u8,.u8,.u8,.u8,.u8,.u8,.u8,.u8,.u8,.u8,.u8,.u8,.u8,.u8,.u8,.u8]
abbrev kI(A:Nat→Int):Nat:=ag ((bG ((ag5 16).map A):Nat):Int)
abbrev kD(x y:Int):Nat:=ag ((bG ((ag5 2).map (aj (aj (fun _=>0) 0 x) 1 y)):Nat):Int)
abbrev Ew(b:Nat)(k a d t:Int)(A:Nat→Int)(c p q:Int)(B:Nat→Int)(o:Int):HP:=ao b true (.int .u8 k::(.int .u8 a::(.int .u8 d::(.int .u64 t::(agw (ak .u8 16 A) (.int .u8 c::(.int .u8 p::(.int .u8 q::(agw (ak .u8 32 B) ([.int .u8 o]))))))))))
abbrev Yw(b:Nat)(A:Nat→Int)(m n:Nat)(t:Int):HP:=ao b true (agw (ak .u8 8 A) ([.map (some m),.map (some n),.int .u64 t]))
abbrev Kw(b:Nat)(A B:Nat→Int):HP:=bK b X8 true false ([.pointer none]) (fun i=> !(A i==0)) (cc [pJ 1 B])
abbrev Gw(b:Nat)(A B:Nat→Int):HP:=bK b [.u8,.u8] true false ([.pointer none]) (fun i=> !(A i==0)) (cc [pJ 1 B])
abbrev Jw(b:Nat)(A:Nat→Int):HP:=bK b X8 true true ([]) (fun i=> !(A i==0)) (cc [])
abbrev Vw(b:Nat)(s:Int)(A:Nat→Int)(o:Bool)(c p q t u:Int)(h:Nat)(v:Value):HP:=ao b true (.int .u8 s::(agw (ak .u8 16 A) ([.bool o,.int .u8 c,.int .u8 p,.int .u8 q,.int .u64 t,.int .u64 u,.map (some h),v])))
abbrev Rw(v:V1)(n:Int)(A B C D E F G:Nat→Int):HP:=aC true 85 22 v.v (ag n) (aT (ag n) [ax .u8 16 A,ax .u8 1 B,oh 1 C,ax .u8 1 D,ax .u64 1 E,ax .u64 1 F,ax .u64 1 G])
abbrev Cw(b:Nat)(x y z:Int)(v:Value)(d t:Bool)(p q:Int)(k:Bool)(A:Nat→Int):HP:=ao b true (.int .u8 x::(.int .u8 y::(.int .u8 z::(v::(.bool d::(.bool t::(.int .u8 p::(.int .u8 q::(.bool k::(agw (ak .u8 32 A) ([])))))))))))
abbrev Iw(v:V1)(n:Int)(A B:Nat→Int):HP:=aC true 30 2 v.v (ag n) (aT (ag n) [ax .u8 1 A,ax .u8 1 B])
abbrev Zw(b:Nat)(A:Nat→Int)(k:Nat)(v:V1)(B:Nat→Int):HP:=bK b [.u8,.u8] true false ([.slice none 0 0]) (fun i=> !(A i==0)) (cc [dC 1 (fun j=>if j=k then v.v else iR (B j))])
end Go.RX

namespace Go.RX.Fr
open Go.RX
def u8(i:Nat):SV:= .int .u8 (.var i)
def u64(i:Nat):SV:= .int .u64 (.var i)
def c1(a:Nat):cb:=⟨.int .u8,1,.aw a⟩
def ZR(a:Nat):cb:=⟨.int .u64,1,.aw a⟩
def Sm(a:Nat):List cb:=[c1 a,⟨.int .u8,16,.aw (a+1)⟩,c1 (a+2),c1 (a+3),c1 (a+4),⟨.int .u8,32,.aw (a+5)⟩,⟨.int .u32,1,.aw (a+6)⟩,⟨.bY,1,.lit 0⟩,c1 (a+7)]
def zk(a:Nat):List cb:=[c1 a,c1 (a+1)]++Sm (a+2)
def sm(a:Nat):List cb:=[c1 a,c1 (a+1)]++zk (a+2)
def w_(a:Nat):List cb:=[c1 a,c1 (a+1),c1 (a+2),ZR (a+3),⟨.int .u8,16,.aw (a+4)⟩,c1 (a+5),c1 (a+6),c1 (a+7),⟨.int .u8,32,.aw (a+8)⟩,c1 (a+9)]
def jX(a:Nat):List cb:=[⟨.int .u8,16,.aw a⟩,c1 (a+1),⟨.bool,1,.aw (a+2)⟩,c1 (a+3),ZR (a+4),ZR (a+5),ZR (a+6)]
def oP:List IntKind:=List.replicate 16 .u8
def k2:List IntKind:=[.u8,.u8]
def kd(i:Nat):Nat:=bG [((i/2:Nat):Int),((i%2:Nat):Int)]
def row:Ck:= .row 0 true [u64 0,.ptr 1 0,.ptr 2 0,.ptr 3 0,.ptr 4 0,.vv 0,.int .u16 (.var 1),.mp 5,.mp 6,.vv 1,.mp 7,.mp 8,.bool (.nz (.var 2))]
def Sq(i:Nat):Ck:= .row (i+1) true [u8 10,u8 11,.a_ .u8 8 (.aw 60),.ptr 13 0,u8 12,.a_ .u8 16 (.aw 61),.bool (.nz (.var 13)),u8 14,u8 15,u8 16,.a_ .u8 32 (.aw 62),.a_ .u8 32 (.aw 63),.a_ .u8 32 (.aw 64),
 .dh (.var 17),.dh (.var 18),u64 19,u64 20,u64 21,u64 22,u64 23,.int .u32 (.var 24)]
def mC(i:Nat):List Ck:=[row,.cy true 0 216 59 (.var 3) (sm 0),.cy true 1 76 56 (.var 4) (w_ 12),
 .map 5 oP true true [.int .u8 (.lit 0),.int .u8 (.lit 0)] (.aw 49) [c1 50,c1 51],.map 6 oP true true [.a_ .u8 32 (.lit 0)] (.aw 52) [⟨.int .u8,32,.aw 53⟩],
 .ow 7 k2 true false [.iJ] [(kd 0,[.mp 9]),(kd 1,[.mp 10]),(kd 2,[.mp 11]),(kd 3,[.mp 12])],
 .ow 8 k2 true false [.bY] [(kd 0,[.vv 2]),(kd 1,[.vv 3]),(kd 2,[.vv 4]),(kd 3,[.vv 5])],
 .map (9+i) oP true false [.int .u8 (.lit 0)] (.aw 54) [c1 55],.cy true (2+i) 85 22 (.var 5) (jX 65),Sq i,
 .cy true 6 111 57 (.var 6) (zk 22),.cy true 7 76 56 (.var 7) (w_ 32),.cy true 8 85 22 (.var 8) (jX 42)]
def iq(i:Nat):List SV:=[.ptr 0 0,.int .i64 (.lit i),.agg [.vv 6,.vv 7,.vv 8]]
def jN:cF:={b:=14,v:=9,i:=25,a:=72}
def T7(c:cF)(h:List Ck):List Ck:=
 match h with
 | .row b w [n,m0,m1,m2,m3,_,d,t,p,e,r,q,x]:: .cy md _ ty s _ _::r'=> .row b w [n,m0,m1,m2,m3,.vv c.v,d,t,p,e,r,q,x]:: .cy md c.v ty s (.var (c.i+1)) (sm c.a)::r'
 | h=>h
def hp2(c:cF)(h:List Ck):List Ck:=
 match h with
 | .row b w [n,m0,m1,m2,m3,f,d,t,p,e,r,q,_]::f'::e':: .map b1 l1 a1 v1 z1 _ _:: .map b2 l2 a2 v2 z2 _ _::r'=>
  .row b w [n,m0,m1,m2,m3,f,d,t,p,e,r,q,.bool (.var c.bo)]::f'::e':: .map b1 l1 a1 v1 z1 (.aw c.a) [c1 (c.a+1),c1 (c.a+2)]:: .map b2 l2 a2 v2 z2 (.aw (c.a+3)) [⟨.int .u8,32,.aw (c.a+4)⟩]::r'
 | h=>h
def OD(v v':Nat):List (Nat×List SV)→List (Nat×List SV)
 | []=>[]
 | (k,[.vv x])::r=>(if x=v then(k,[.vv v'])else(k,[.vv x]))::OD v v' r
 | e::r=>e::OD v v' r
def hp5(c:cF)(h:List Ck):List Ck:=
 match h with
 | .row b w [n,m0,m1,m2,m3,f,d,t,p,e,r,q,_]::f'::e'::t'::p'::r7:: .ow b8 l8 a8 v8 z8 es:: .map b9 l9 a9 v9 z9 _ _:: .cy md v ty s _ _::r'=>
  .row b w [n,m0,m1,m2,m3,f,d,t,p,e,r,q,.bool (.var c.bo)]::f'::e'::t'::p'::r7:: .ow b8 l8 a8 v8 z8 (OD v c.v es):: .map b9 l9 a9 v9 z9 (.aw c.a) [c1 (c.a+1)]:: .cy md c.v ty s (.var (c.i+1)) (jX (c.a+2))::r'
 | h=>h
def loops(f id:Nat):Option jg:=
 match f,id with
 | 101,0=>some {inc:={v:=1,i:=2,a:=12},slots:=fun c=>[(24,.int .i64 (.var c.i))],hp:=T7}
 | 101,2=>some {inc:={i:=1,a:=5,bo:=1},slots:=fun c=>[(55,.int .i64 (.var c.i))],hp:=hp2}
 | 101,5=>some {inc:={v:=1,i:=2,a:=9,bo:=1},slots:=fun c=>[(163,.int .i64 (.var c.i))],hp:=hp5}
 | _,_=>none
end Go.RX.Fr

namespace Go.RX.Cs
open Go.RX Go.RX.Fr
def X9(i a:Nat):SV:= .agg [u8 i,.a_ .u8 16 (.aw a),u8 (i+1),u8 (i+2),u8 (i+3),.a_ .u8 32 (.aw (a+1)),.int .u32 (.var (i+4)),.bY,u8 (i+5)]
def hpS:List Ck:=[.row 0 true [.vv 0,.vv 1,.vv 2],.cy true 0 111 57 (.var 0) (zk 0)]
def Vv(i a:Nat):SV:= .agg [u8 i,u8 (i+1),u8 (i+2),u64 (i+3),.a_ .u8 16 (.aw a),u8 (i+4),u8 (i+5),u8 (i+6),.a_ .u8 32 (.aw (a+1)),u8 (i+7)]
end Go.RX.Cs
