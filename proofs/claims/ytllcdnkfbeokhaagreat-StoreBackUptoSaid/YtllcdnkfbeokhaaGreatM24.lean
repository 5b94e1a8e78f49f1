/- The types and functions of the seat's program. -/
import Derived.Test.YtllcdnkfbeokhaaGreatProg
import Derived.Test.YtllcdnkfbeokhaaGreatM23
open Bool renaming and_eq_true → ai
open Go.Proofs.Tryz renaming prog → auN
open Int renaming toNat → ag
open List renaming getElem?_append_left → auu, getElem?_eq_some_iff → aup
open Option.some renaming injEq → auq
namespace Go.RX
open Go.Proofs
set_option maxRecDepth 100000
def TT:List TI:=[
 ⟨3,.int .i64,1,8,[.int .i64 (.lit 0)],[]⟩,
 ⟨4,.bool,1,1,[.bool (.lit false)],[]⟩,
 ⟨5,.int .u8,1,1,[.int .u8 (.lit 0)],[]⟩,
 ⟨9,.str,1,16,[.str []],[]⟩,
 ⟨22,.arr 32 5,32,32,[.dg .u8 32 (.lit 0)],[(some .u8,32)]⟩,
 ⟨23,.arr 32 5,32,32,[.dg .u8 32 (.lit 0)],[(some .u8,32)]⟩,
 ⟨24,.int .u64,1,8,[.int .u64 (.lit 0)],[]⟩,
 ⟨26,.struct [(5,0),(5,1)],2,2,[.int .u8 (.lit 0),.int .u8 (.lit 0)],[(some .u8,2)]⟩,
 ⟨27,.slice 93,1,24,[.bx],[]⟩,
 ⟨29,.struct [(26,0),(23,2),(23,34),(27,66)],67,96,[.int .u8 (.lit 0),.int .u8 (.lit 0),.dg .u8 32 (.lit 0),.dg .u8 32 (.lit 0),.bx],[]⟩,
 ⟨30,.slice 68,1,24,[.bx],[]⟩,
 ⟨32,.struct [(29,0),(3,67),(30,68)],69,128,[.int .u8 (.lit 0),.int .u8 (.lit 0),.dg .u8 32 (.lit 0),.dg .u8 32 (.lit 0),.bx,.int .i64 (.lit 0),.bx],[]⟩,
 ⟨33,.arr 8 5,8,8,[.dg .u8 8 (.lit 0)],[(some .u8,8)]⟩,
 ⟨34,.slice 36,1,24,[.bx],[]⟩,
 ⟨36,.arr 16 5,16,16,[.dg .u8 16 (.lit 0)],[(some .u8,16)]⟩,
 ⟨37,.slice 5,1,24,[.bx],[]⟩,
 ⟨38,.slice 26,1,24,[.bx],[]⟩,
 ⟨39,.int .u32,1,4,[.int .u32 (.lit 0)],[]⟩,
 ⟨41,.struct [(26,0),(33,2),(34,10),(5,11),(36,12),(4,28),(5,29),(26,30),(23,32),(23,64),(23,96),(37,128),(3,129),(38,130),(24,131),(24,132),(24,133),(24,134),(24,135),(39,136)],137,264,[.int .u8 (.lit 0),.int .u8 (.lit 0),.dg .u8 8 (.lit 0),.bx,.int .u8 (.lit 0),.dg .u8 16 (.lit 0),.bool (.lit false),.int .u8 (.lit 0),.int .u8 (.lit 0),.int .u8 (.lit 0),.dg .u8 32 (.lit 0),.dg .u8 32 (.lit 0),.dg .u8 32 (.lit 0),.bx,.int .i64 (.lit 0),.bx,.int .u64 (.lit 0),.int .u64 (.lit 0),.int .u64 (.lit 0),.int .u64 (.lit 0),.int .u64 (.lit 0),.int .u32 (.lit 0)],[]⟩,
 ⟨42,.slice 98,1,24,[.bx],[]⟩,
 ⟨44,.struct [(23,0),(24,32),(32,33),(41,102),(37,239),(42,240)],241,480,[.dg .u8 32 (.lit 0),.int .u64 (.lit 0),.int .u8 (.lit 0),.int .u8 (.lit 0),.dg .u8 32 (.lit 0),.dg .u8 32 (.lit 0),.bx,.int .i64 (.lit 0),.bx,.int .u8 (.lit 0),.int .u8 (.lit 0),.dg .u8 8 (.lit 0),.bx,.int .u8 (.lit 0),.dg .u8 16 (.lit 0),.bool (.lit false),.int .u8 (.lit 0),.int .u8 (.lit 0),.int .u8 (.lit 0),.dg .u8 32 (.lit 0),.dg .u8 32 (.lit 0),.dg .u8 32 (.lit 0),.bx,.int .i64 (.lit 0),.bx,.int .u64 (.lit 0),.int .u64 (.lit 0),.int .u64 (.lit 0),.int .u64 (.lit 0),.int .u64 (.lit 0),.int .u32 (.lit 0),.bx,.bx],[]⟩,
 ⟨47,.int .i64,1,8,[.int .i64 (.lit 0)],[]⟩,
 ⟨51,.slice 84,1,24,[.bx],[]⟩,
 ⟨55,.ptr 117,1,8,[.cu],[]⟩,
 ⟨66,.slice 77,1,24,[.bx],[]⟩,
 ⟨68,.struct [(26,0),(66,2)],3,32,[.int .u8 (.lit 0),.int .u8 (.lit 0),.bx],[]⟩,
 ⟨70,.struct [(23,0),(39,32)],33,36,[.dg .u8 32 (.lit 0),.int .u32 (.lit 0)],[(some .u8,32),(some .u32,1)]⟩,
 ⟨71,.slice 245,1,24,[.bx],[]⟩,
 ⟨73,.struct [(23,0),(23,32),(23,64),(23,96),(4,128),(4,129),(4,130),(4,131),(70,132),(70,165),(39,198),(71,199)],200,232,[.dg .u8 32 (.lit 0),.dg .u8 32 (.lit 0),.dg .u8 32 (.lit 0),.dg .u8 32 (.lit 0),.bool (.lit false),.bool (.lit false),.bool (.lit false),.bool (.lit false),.dg .u8 32 (.lit 0),.int .u32 (.lit 0),.dg .u8 32 (.lit 0),.int .u32 (.lit 0),.int .u32 (.lit 0),.bx],[]⟩,
 ⟨75,.struct [(23,0),(23,32),(4,64),(39,65)],66,72,[.dg .u8 32 (.lit 0),.dg .u8 32 (.lit 0),.bool (.lit false),.int .u32 (.lit 0)],[(some .u8,64),(none,1),(some .u32,1)]⟩,
 ⟨77,.struct [(73,0),(75,200),(4,266),(4,267)],268,312,[.dg .u8 32 (.lit 0),.dg .u8 32 (.lit 0),.dg .u8 32 (.lit 0),.dg .u8 32 (.lit 0),.bool (.lit false),.bool (.lit false),.bool (.lit false),.bool (.lit false),.dg .u8 32 (.lit 0),.int .u32 (.lit 0),.dg .u8 32 (.lit 0),.int .u32 (.lit 0),.int .u32 (.lit 0),.bx,.dg .u8 32 (.lit 0),.dg .u8 32 (.lit 0),.bool (.lit false),.int .u32 (.lit 0),.bool (.lit false),.bool (.lit false)],[]⟩,
 ⟨78,.ptr 80,1,8,[.cu],[]⟩,
 ⟨80,.struct [(4,0),(37,1),(4,2)],3,40,[.bool (.lit false),.bx,.bool (.lit false)],[]⟩,
 ⟨84,.struct [(5,0),(24,1),(37,2)],3,40,[.int .u8 (.lit 0),.int .u64 (.lit 0),.bx],[]⟩,
 ⟨86,.ptr 88,1,8,[.cu],[]⟩,
 ⟨88,.struct [(51,0)],1,24,[.bx],[]⟩,
 ⟨93,.struct [(39,0),(23,1)],33,36,[.int .u32 (.lit 0),.dg .u8 32 (.lit 0)],[(some .u32,1),(some .u8,32)]⟩,
 ⟨98,.struct [(36,0),(5,16),(4,17),(24,18)],19,32,[.dg .u8 16 (.lit 0),.int .u8 (.lit 0),.bool (.lit false),.int .u64 (.lit 0)],[(some .u8,17),(none,1),(some .u64,1)]⟩,
 ⟨102,.ptr 44,1,8,[.cu],[]⟩,
 ⟨105,.iface,1,16,[.pf],[]⟩,
 ⟨106,.ptr 171,1,8,[.cu],[]⟩,
 ⟨109,.ptr 178,1,8,[.cu],[]⟩,
 ⟨112,.ptr 198,1,8,[.cu],[]⟩,
 ⟨115,.map 36 119,1,8,[.nT],[]⟩,
 ⟨117,.struct [(26,0),(105,2),(23,3),(24,35),(106,36),(109,37),(112,38),(115,39),(36,40)],56,112,[.int .u8 (.lit 0),.int .u8 (.lit 0),.pf,.dg .u8 32 (.lit 0),.int .u64 (.lit 0),.cu,.cu,.cu,.nT,.dg .u8 16 (.lit 0)],[]⟩,
 ⟨119,.ptr 125,1,8,[.cu],[]⟩,
 ⟨122,.ptr 291,1,8,[.cu],[]⟩,
 ⟨123,.ptr 303,1,8,[.cu],[]⟩,
 ⟨125,.struct [(122,0),(123,1),(4,2),(4,3),(5,4),(24,5)],6,32,[.cu,.cu,.bool (.lit false),.bool (.lit false),.int .u8 (.lit 0),.int .u64 (.lit 0)],[]⟩,
 ⟨133,.int .u64,1,8,[.int .u64 (.lit 0)],[]⟩,
 ⟨134,.slice 37,1,24,[.bx],[]⟩,
 ⟨135,.ptr 242,1,8,[.cu],[]⟩,
 ⟨138,.slice 23,1,24,[.bx],[]⟩,
 ⟨139,.slice 24,1,24,[.bx],[]⟩,
 ⟨141,.slice 4,1,24,[.bx],[]⟩,
 ⟨143,.ptr 23,1,8,[.cu],[]⟩,
 ⟨145,.ptr 24,1,8,[.cu],[]⟩,
 ⟨147,.ptr 32,1,8,[.cu],[]⟩,
 ⟨149,.ptr 41,1,8,[.cu],[]⟩,
 ⟨151,.ptr 37,1,8,[.cu],[]⟩,
 ⟨153,.ptr 42,1,8,[.cu],[]⟩,
 ⟨154,.ptr 98,1,8,[.cu],[]⟩,
 ⟨156,.ptr 5,1,8,[.cu],[]⟩,
 ⟨158,.ptr 4,1,8,[.cu],[]⟩,
 ⟨159,.func,1,8,[.kD],[]⟩,
 ⟨165,.ptr 213,1,8,[.cu],[]⟩,
 ⟨169,.map 26 165,1,8,[.nT],[]⟩,
 ⟨171,.struct [(29,0),(3,67),(169,68)],69,112,[.int .u8 (.lit 0),.int .u8 (.lit 0),.dg .u8 32 (.lit 0),.dg .u8 32 (.lit 0),.bx,.int .i64 (.lit 0),.nT],[]⟩,
 ⟨173,.ptr 315,1,8,[.cu],[]⟩,
 ⟨175,.ptr 276,1,8,[.cu],[]⟩,
 ⟨176,.ptr 320,1,8,[.cu],[]⟩,
 ⟨178,.struct [(26,0),(33,2),(173,10),(5,11),(36,12),(4,28),(5,29),(26,30),(23,32),(23,64),(23,96),(175,128),(176,129),(24,130),(24,131),(24,132),(24,133),(24,134),(39,135)],136,208,[.int .u8 (.lit 0),.int .u8 (.lit 0),.dg .u8 8 (.lit 0),.cu,.int .u8 (.lit 0),.dg .u8 16 (.lit 0),.bool (.lit false),.int .u8 (.lit 0),.int .u8 (.lit 0),.int .u8 (.lit 0),.dg .u8 32 (.lit 0),.dg .u8 32 (.lit 0),.dg .u8 32 (.lit 0),.cu,.cu,.int .u64 (.lit 0),.int .u64 (.lit 0),.int .u64 (.lit 0),.int .u64 (.lit 0),.int .u64 (.lit 0),.int .u32 (.lit 0)],[]⟩,
 ⟨183,.map 36 191,1,8,[.nT],[]⟩,
 ⟨188,.struct [(36,0),(5,16),(4,17),(5,18),(24,19),(24,20),(24,21)],22,48,[.dg .u8 16 (.lit 0),.int .u8 (.lit 0),.bool (.lit false),.int .u8 (.lit 0),.int .u64 (.lit 0),.int .u64 (.lit 0),.int .u64 (.lit 0)],[(some .u8,17),(none,1),(some .u8,1),(some .u64,3)]⟩,
 ⟨191,.struct [],0,0,[],[]⟩,
 ⟨193,.slice 188,1,24,[.bx],[]⟩,
 ⟨195,.struct [(193,0),(3,1)],2,32,[.bx,.int .i64 (.lit 0)],[]⟩,
 ⟨196,.ptr 195,1,8,[.cu],[]⟩,
 ⟨198,.struct [(196,0)],1,8,[.cu],[]⟩,
 ⟨202,.iface,1,16,[.pf],[]⟩,
 ⟨204,.func,1,8,[.kD],[]⟩,
 ⟨207,.int .u16,1,2,[.int .u16 (.lit 0)],[]⟩,
 ⟨209,.slice 211,1,24,[.bx],[]⟩,
 ⟨211,.ptr 216,1,8,[.cu],[]⟩,
 ⟨213,.struct [(209,0),(209,1),(211,2)],3,56,[.bx,.bx,.cu],[]⟩,
 ⟨214,.ptr 307,1,8,[.cu],[]⟩,
 ⟨216,.struct [(214,0),(75,1),(4,67)],68,88,[.cu,.dg .u8 32 (.lit 0),.dg .u8 32 (.lit 0),.bool (.lit false),.int .u32 (.lit 0),.bool (.lit false)],[]⟩,
 ⟨219,.func,1,8,[.kD],[]⟩,
 ⟨222,.func,1,8,[.kD],[]⟩,
 ⟨228,.func,1,8,[.kD],[]⟩,
 ⟨235,.func,1,8,[.kD],[]⟩,
 ⟨236,.slice 39,1,24,[.bx],[]⟩,
 ⟨238,.arr 3 3,3,24,[.dg .i64 3 (.lit 0)],[(some .i64,3)]⟩,
 ⟨240,.struct [(238,0),(238,3),(238,6),(238,9)],12,96,[.dg .i64 3 (.lit 0),.dg .i64 3 (.lit 0),.dg .i64 3 (.lit 0),.dg .i64 3 (.lit 0)],[(some .i64,12)]⟩,
 ⟨242,.struct [(236,0),(236,1),(3,2),(240,3)],15,152,[.bx,.bx,.int .i64 (.lit 0),.dg .i64 3 (.lit 0),.dg .i64 3 (.lit 0),.dg .i64 3 (.lit 0),.dg .i64 3 (.lit 0)],[]⟩,
 ⟨245,.struct [(23,0),(39,32),(23,33)],65,68,[.dg .u8 32 (.lit 0),.int .u32 (.lit 0),.dg .u8 32 (.lit 0)],[(some .u8,32),(some .u32,1),(some .u8,32)]⟩,
 ⟨246,.slice 143,1,24,[.bx],[]⟩,
 ⟨247,.slice 145,1,24,[.bx],[]⟩,
 ⟨249,.ptr 29,1,8,[.cu],[]⟩,
 ⟨251,.ptr 30,1,8,[.cu],[]⟩,
 ⟨252,.ptr 68,1,8,[.cu],[]⟩,
 ⟨254,.ptr 26,1,8,[.cu],[]⟩,
 ⟨256,.ptr 66,1,8,[.cu],[]⟩,
 ⟨257,.func,1,8,[.kD],[]⟩,
 ⟨258,.func,1,8,[.kD],[]⟩,
 ⟨260,.ptr 34,1,8,[.cu],[]⟩,
 ⟨261,.ptr 36,1,8,[.cu],[]⟩,
 ⟨262,.func,1,8,[.kD],[]⟩,
 ⟨264,.ptr 38,1,8,[.cu],[]⟩,
 ⟨265,.func,1,8,[.kD],[]⟩,
 ⟨267,.ptr 39,1,8,[.cu],[]⟩,
 ⟨268,.slice 156,1,24,[.bx],[]⟩,
 ⟨269,.slice 158,1,24,[.bx],[]⟩,
 ⟨276,.struct [(5,0),(37,1),(3,2)],3,40,[.int .u8 (.lit 0),.bx,.int .i64 (.lit 0)],[]⟩,
 ⟨279,.ptr 345,1,8,[.cu],[]⟩,
 ⟨287,.struct [(36,0),(24,16),(38,17)],18,48,[.dg .u8 16 (.lit 0),.int .u64 (.lit 0),.bx],[]⟩,
 ⟨288,.slice 418,1,24,[.bx],[]⟩,
 ⟨289,.slice 416,1,24,[.bx],[]⟩,
 ⟨291,.struct [(202,0),(26,1),(4,3),(287,4),(288,22),(289,23)],24,120,[.pf,.int .u8 (.lit 0),.int .u8 (.lit 0),.bool (.lit false),.dg .u8 16 (.lit 0),.int .u64 (.lit 0),.bx,.bx,.bx],[]⟩,
 ⟨292,.ptr 294,1,8,[.cu],[]⟩,
 ⟨294,.struct [(204,0)],1,8,[.kD],[]⟩,
 ⟨295,.int .u8,1,1,[.int .u8 (.lit 0)],[]⟩,
 ⟨297,.struct [(295,0),(3,1),(3,2),(3,3),(3,4)],5,40,[.int .u8 (.lit 0),.int .i64 (.lit 0),.int .i64 (.lit 0),.int .i64 (.lit 0),.int .i64 (.lit 0)],[(some .u8,1),(some .i64,4)]⟩,
 ⟨300,.map 24 419,1,8,[.nT],[]⟩,
 ⟨301,.ptr 423,1,8,[.cu],[]⟩,
 ⟨303,.struct [(122,0),(207,1),(3,2),(24,3),(301,4),(300,5)],6,48,[.cu,.int .u16 (.lit 0),.int .i64 (.lit 0),.int .u64 (.lit 0),.cu,.nT],[]⟩,
 ⟨304,.slice 209,1,24,[.bx],[]⟩,
 ⟨307,.struct [(23,0),(23,32),(23,64),(23,96),(4,128),(70,129),(70,162),(4,195),(4,196),(39,197),(71,198),(4,199)],200,248,[.dg .u8 32 (.lit 0),.dg .u8 32 (.lit 0),.dg .u8 32 (.lit 0),.dg .u8 32 (.lit 0),.bool (.lit false),.dg .u8 32 (.lit 0),.int .u32 (.lit 0),.dg .u8 32 (.lit 0),.int .u32 (.lit 0),.bool (.lit false),.bool (.lit false),.int .u32 (.lit 0),.bx,.bool (.lit false)],[]⟩,
 ⟨315,.struct [(34,0),(3,1)],2,32,[.bx,.int .i64 (.lit 0)],[]⟩,
 ⟨320,.struct [(38,0),(3,1)],2,32,[.bx,.int .i64 (.lit 0)],[]⟩,
 ⟨321,.ptr 360,1,8,[.cu],[]⟩,
 ⟨329,.arr 8 39,8,32,[.dg .u32 8 (.lit 0)],[(some .u32,8)]⟩,
 ⟨331,.ptr 27,1,8,[.cu],[]⟩,
 ⟨332,.ptr 93,1,8,[.cu],[]⟩,
 ⟨333,.func,1,8,[.kD],[]⟩,
 ⟨334,.slice 254,1,24,[.bx],[]⟩,
 ⟨335,.ptr 77,1,8,[.cu],[]⟩,
 ⟨337,.ptr 73,1,8,[.cu],[]⟩,
 ⟨338,.slice 267,1,24,[.bx],[]⟩,
 ⟨345,.struct [(37,0),(4,1)],2,32,[.bx,.bool (.lit false)],[]⟩,
 ⟨347,.map 207 297,1,8,[.nT],[]⟩,
 ⟨350,.int .i64,1,8,[.int .i64 (.lit 0)],[]⟩,
 ⟨360,.struct [(37,0),(3,1),(4,2)],3,40,[.bx,.int .i64 (.lit 0),.bool (.lit false)],[]⟩,
 ⟨368,.ptr 70,1,8,[.cu],[]⟩,
 ⟨370,.ptr 71,1,8,[.cu],[]⟩,
 ⟨371,.ptr 245,1,8,[.cu],[]⟩,
 ⟨372,.func,1,8,[.kD],[]⟩,
 ⟨375,.int .u64,1,8,[.int .u64 (.lit 0)],[]⟩,
 ⟨378,.ptr 3,1,8,[.cu],[]⟩,
 ⟨416,.struct [(36,0),(24,16),(26,17),(24,19),(9,20)],21,56,[.dg .u8 16 (.lit 0),.int .u64 (.lit 0),.int .u8 (.lit 0),.int .u8 (.lit 0),.int .u64 (.lit 0),.str []],[]⟩,
 ⟨418,.struct [(416,0),(24,21),(4,22)],23,72,[.dg .u8 16 (.lit 0),.int .u64 (.lit 0),.int .u8 (.lit 0),.int .u8 (.lit 0),.int .u64 (.lit 0),.str [],.int .u64 (.lit 0),.bool (.lit false)],[]⟩,
 ⟨419,.ptr 440,1,8,[.cu],[]⟩]
theorem YW:bB auN TT=true:=by kernel_rfl
noncomputable def FT:List (Nat×Func):=[(2,Tryz.f2),(3,Tryz.f3),(4,Tryz.f4),(5,Tryz.f5),(6,Tryz.f6),(7,Tryz.f7),(8,Tryz.f8),(9,Tryz.f9),(10,Tryz.f10),(11,Tryz.f11),(12,Tryz.f12),(13,Tryz.f13),(14,Tryz.f14),(15,Tryz.f15),(16,Tryz.f16),(17,Tryz.f17),(18,Tryz.f18),(19,Tryz.f19),(20,Tryz.f20),(21,Tryz.f21),(22,Tryz.f22),(23,Tryz.f23),(24,Tryz.f24),(25,Tryz.f25),(26,Tryz.f26),(27,Tryz.f27),(28,Tryz.f28),(29,Tryz.f29),(30,Tryz.f30),(31,Tryz.f31),(32,Tryz.f32),(33,Tryz.f33),(34,Tryz.f34),(35,Tryz.f35),(36,Tryz.f36),(37,Tryz.f37),(38,Tryz.f38),(39,Tryz.f39),(40,Tryz.f40),(41,Tryz.f41),(42,Tryz.f42),(43,Tryz.f43),(44,Tryz.f44),(45,Tryz.f45),(46,Tryz.f46),(47,Tryz.f47),(48,Tryz.f48),(49,Tryz.f49),(50,Tryz.f50),(51,Tryz.f51),(52,Tryz.f52),(53,Tryz.f53),(54,Tryz.f54),(55,Tryz.f55),(56,Tryz.f56),(57,Tryz.f57),(58,Tryz.f58),(59,Tryz.f59),(60,Tryz.f60),(61,Tryz.f61),(62,Tryz.f62),(63,Tryz.f63),(64,Tryz.f64),(65,Tryz.f65),(66,Tryz.f66),(67,Tryz.f67),(68,Tryz.f68),(69,Tryz.f69),(70,Tryz.f70),(71,Tryz.f71),(72,Tryz.f72),(73,Tryz.f73),(74,Tryz.f74),(75,Tryz.f75),(76,Tryz.f76),(77,Tryz.f77),(78,Tryz.f78),(79,Tryz.f79),(80,Tryz.f80),(81,Tryz.f81),(82,Tryz.f82),(83,Tryz.f83),(84,Tryz.f84),(85,Tryz.f85),(86,Tryz.f86),(87,Tryz.f87),(88,Tryz.f88),(89,Tryz.f89),(90,Tryz.f90),(91,Tryz.f91),(92,Tryz.f92),(93,Tryz.f93),(94,Tryz.f94),(95,Tryz.f95),(96,Tryz.f96),(97,Tryz.f97),(98,Tryz.f98),(99,Tryz.f99),(100,Tryz.f100),(101,Tryz.f101),(102,Tryz.f102),(103,Tryz.f103),(104,Tryz.f104),(105,Tryz.f105),(106,Tryz.f106),(107,Tryz.f107),(108,Tryz.f108),(109,Tryz.f109),(110,Tryz.f110),(111,Tryz.f111),(112,Tryz.f112),(113,Tryz.f113),(114,Tryz.f114),(115,Tryz.f115),(116,Tryz.f116),(117,Tryz.f117),(118,Tryz.f118),(119,Tryz.f119),(120,Tryz.f120),(121,Tryz.f121),(122,Tryz.f122),(123,Tryz.f123),(124,Tryz.f124),(125,Tryz.f125),(126,Tryz.f126),(127,Tryz.f127),(128,Tryz.f128),(129,Tryz.f129),(130,Tryz.f130),(131,Tryz.f131),(132,Tryz.f132),(133,Tryz.f133),(134,Tryz.f134),(135,Tryz.f135),(136,Tryz.f136),(137,Tryz.f137),(138,Tryz.f138),(139,Tryz.f139),(140,Tryz.f140),(141,Tryz.f141),(142,Tryz.f142),(143,Tryz.f143),(144,Tryz.f144),(145,Tryz.f145),(146,Tryz.f146),(147,Tryz.f147),(148,Tryz.f148),(149,Tryz.f149),(150,Tryz.f150),(151,Tryz.f151),(152,Tryz.f152),(153,Tryz.f153),(154,Tryz.f154),(155,Tryz.f155),(156,Tryz.f156),(157,Tryz.f157),(158,Tryz.f158),(159,Tryz.f159),(160,Tryz.f160),(161,Tryz.f161),(162,Tryz.f162),(163,Tryz.f163),(164,Tryz.f164),(165,Tryz.f165),(166,Tryz.f166),(167,Tryz.f167),(168,Tryz.f168),(169,Tryz.f169),(170,Tryz.f170),(171,Tryz.f171),(172,Tryz.f172),(173,Tryz.f173),(174,Tryz.f174),(175,Tryz.f175),(176,Tryz.f176),(177,Tryz.f177),(178,Tryz.f178),(179,Tryz.f179),(180,Tryz.f180),(181,Tryz.f181),(182,Tryz.f182),(183,Tryz.f183),(184,Tryz.f184),(185,Tryz.f185),(186,Tryz.f186),(187,Tryz.f187),(188,Tryz.f188),(189,Tryz.f189),(190,Tryz.f190),(191,Tryz.f191),(192,Tryz.f192),(193,Tryz.f193),(194,Tryz.f194),(195,Tryz.f195),(196,Tryz.f196),(197,Tryz.f197),(198,Tryz.f198),(199,Tryz.f199),(200,Tryz.f200),(201,Tryz.f201),(202,Tryz.f202)]
theorem I0:aJ
 auN FT:=
 aJ.cons Tryz.func2 (by kernel_rfl) <|
 aJ.cons Tryz.func3 (by kernel_rfl) <|
 aJ.cons Tryz.func4 (by kernel_rfl) <|
 aJ.cons Tryz.func5 (by kernel_rfl) <|
 aJ.cons Tryz.func6 (by kernel_rfl) <|
 aJ.cons Tryz.func7 (by kernel_rfl) <|
 aJ.cons Tryz.func8 (by kernel_rfl) <|
 aJ.cons Tryz.func9 (by kernel_rfl) <|
 aJ.cons Tryz.func10 (by kernel_rfl) <|
 aJ.cons Tryz.func11 (by kernel_rfl) <|
 aJ.cons Tryz.func12 (by kernel_rfl) <|
 aJ.cons Tryz.func13 (by kernel_rfl) <|
 aJ.cons Tryz.func14 (by kernel_rfl) <|
 aJ.cons Tryz.func15 (by kernel_rfl) <|
 aJ.cons Tryz.func16 (by kernel_rfl) <|
 aJ.cons Tryz.func17 (by kernel_rfl) <|
 aJ.cons Tryz.func18 (by kernel_rfl) <|
 aJ.cons Tryz.func19 (by kernel_rfl) <|
 aJ.cons Tryz.func20 (by kernel_rfl) <|
 aJ.cons Tryz.func21 (by kernel_rfl) <|
 aJ.cons Tryz.func22 (by kernel_rfl) <|
 aJ.cons Tryz.func23 (by kernel_rfl) <|
 aJ.cons Tryz.func24 (by kernel_rfl) <|
 aJ.cons Tryz.func25 (by kernel_rfl) <|
 aJ.cons Tryz.func26 (by kernel_rfl) <|
 aJ.cons Tryz.func27 (by kernel_rfl) <|
 aJ.cons Tryz.func28 (by kernel_rfl) <|
 aJ.cons Tryz.func29 (by kernel_rfl) <|
 aJ.cons Tryz.func30 (by kernel_rfl) <|
 aJ.cons Tryz.func31 (by kernel_rfl) <|
 aJ.cons Tryz.func32 (by kernel_rfl) <|
 aJ.cons Tryz.func33 (by kernel_rfl) <|
 aJ.cons Tryz.func34 (by kernel_rfl) <|
 aJ.cons Tryz.func35 (by kernel_rfl) <|
 aJ.cons Tryz.func36 (by kernel_rfl) <|
 aJ.cons Tryz.func37 (by kernel_rfl) <|
 aJ.cons Tryz.func38 (by kernel_rfl) <|
 aJ.cons Tryz.func39 (by kernel_rfl) <|
 aJ.cons Tryz.func40 (by kernel_rfl) <|
 aJ.cons Tryz.func41 (by kernel_rfl) <|
 aJ.cons Tryz.func42 (by kernel_rfl) <|
 aJ.cons Tryz.func43 (by kernel_rfl) <|
 aJ.cons Tryz.func44 (by kernel_rfl) <|
 aJ.cons Tryz.func45 (by kernel_rfl) <|
 aJ.cons Tryz.func46 (by kernel_rfl) <|
 aJ.cons Tryz.func47 (by kernel_rfl) <|
 aJ.cons Tryz.func48 (by kernel_rfl) <|
 aJ.cons Tryz.func49 (by kernel_rfl) <|
 aJ.cons Tryz.func50 (by kernel_rfl) <|
 aJ.cons Tryz.func51 (by kernel_rfl) <|
 aJ.cons Tryz.func52 (by kernel_rfl) <|
 aJ.cons Tryz.func53 (by kernel_rfl) <|
 aJ.cons Tryz.func54 (by kernel_rfl) <|
 aJ.cons Tryz.func55 (by kernel_rfl) <|
 aJ.cons Tryz.func56 (by kernel_rfl) <|
 aJ.cons Tryz.func57 (by kernel_rfl) <|
 aJ.cons Tryz.func58 (by kernel_rfl) <|
 aJ.cons Tryz.func59 (by kernel_rfl) <|
 aJ.cons Tryz.func60 (by kernel_rfl) <|
 aJ.cons Tryz.func61 (by kernel_rfl) <|
 aJ.cons Tryz.func62 (by kernel_rfl) <|
 aJ.cons Tryz.func63 (by kernel_rfl) <|
 aJ.cons Tryz.func64 (by kernel_rfl) <|
 aJ.cons Tryz.func65 (by kernel_rfl) <|
 aJ.cons Tryz.func66 (by kernel_rfl) <|
 aJ.cons Tryz.func67 (by kernel_rfl) <|
 aJ.cons Tryz.func68 (by kernel_rfl) <|
 aJ.cons Tryz.func69 (by kernel_rfl) <|
 aJ.cons Tryz.func70 (by kernel_rfl) <|
 aJ.cons Tryz.func71 (by kernel_rfl) <|
 aJ.cons Tryz.func72 (by kernel_rfl) <|
 aJ.cons Tryz.func73 (by kernel_rfl) <|
 aJ.cons Tryz.func74 (by kernel_rfl) <|
 aJ.cons Tryz.func75 (by kernel_rfl) <|
 aJ.cons Tryz.func76 (by kernel_rfl) <|
 aJ.cons Tryz.func77 (by kernel_rfl) <|
 aJ.cons Tryz.func78 (by kernel_rfl) <|
 aJ.cons Tryz.func79 (by kernel_rfl) <|
 aJ.cons Tryz.func80 (by kernel_rfl) <|
 aJ.cons Tryz.func81 (by kernel_rfl) <|
 aJ.cons Tryz.func82 (by kernel_rfl) <|
 aJ.cons Tryz.func83 (by kernel_rfl) <|
 aJ.cons Tryz.func84 (by kernel_rfl) <|
 aJ.cons Tryz.func85 (by kernel_rfl) <|
 aJ.cons Tryz.func86 (by kernel_rfl) <|
 aJ.cons Tryz.func87 (by kernel_rfl) <|
 aJ.cons Tryz.func88 (by kernel_rfl) <|
 aJ.cons Tryz.func89 (by kernel_rfl) <|
 aJ.cons Tryz.func90 (by kernel_rfl) <|
 aJ.cons Tryz.func91 (by kernel_rfl) <|
 aJ.cons Tryz.func92 (by kernel_rfl) <|
 aJ.cons Tryz.func93 (by kernel_rfl) <|
 aJ.cons Tryz.func94 (by kernel_rfl) <|
 aJ.cons Tryz.func95 (by kernel_rfl) <|
 aJ.cons Tryz.func96 (by kernel_rfl) <|
 aJ.cons Tryz.func97 (by kernel_rfl) <|
 aJ.cons Tryz.func98 (by kernel_rfl) <|
 aJ.cons Tryz.func99 (by kernel_rfl) <|
 aJ.cons Tryz.func100 (by kernel_rfl) <|
 aJ.cons Tryz.func101 (by kernel_rfl) <|
 aJ.cons Tryz.func102 (by kernel_rfl) <|
 aJ.cons Tryz.func103 (by kernel_rfl) <|
 aJ.cons Tryz.func104 (by kernel_rfl) <|
 aJ.cons Tryz.func105 (by kernel_rfl) <|
 aJ.cons Tryz.func106 (by kernel_rfl) <|
 aJ.cons Tryz.func107 (by kernel_rfl) <|
 aJ.cons Tryz.func108 (by kernel_rfl) <|
 aJ.cons Tryz.func109 (by kernel_rfl) <|
 aJ.cons Tryz.func110 (by kernel_rfl) <|
 aJ.cons Tryz.func111 (by kernel_rfl) <|
 aJ.cons Tryz.func112 (by kernel_rfl) <|
 aJ.cons Tryz.func113 (by kernel_rfl) <|
 aJ.cons Tryz.func114 (by kernel_rfl) <|
 aJ.cons Tryz.func115 (by kernel_rfl) <|
 aJ.cons Tryz.func116 (by kernel_rfl) <|
 aJ.cons Tryz.func117 (by kernel_rfl) <|
 aJ.cons Tryz.func118 (by kernel_rfl) <|
 aJ.cons Tryz.func119 (by kernel_rfl) <|
 aJ.cons Tryz.func120 (by kernel_rfl) <|
 aJ.cons Tryz.func121 (by kernel_rfl) <|
 aJ.cons Tryz.func122 (by kernel_rfl) <|
 aJ.cons Tryz.func123 (by kernel_rfl) <|
 aJ.cons Tryz.func124 (by kernel_rfl) <|
 aJ.cons Tryz.func125 (by kernel_rfl) <|
 aJ.cons Tryz.func126 (by kernel_rfl) <|
 aJ.cons Tryz.func127 (by kernel_rfl) <|
 aJ.cons Tryz.func128 (by kernel_rfl) <|
 aJ.cons Tryz.func129 (by kernel_rfl) <|
 aJ.cons Tryz.func130 (by kernel_rfl) <|
 aJ.cons Tryz.func131 (by kernel_rfl) <|
 aJ.cons Tryz.func132 (by kernel_rfl) <|
 aJ.cons Tryz.func133 (by kernel_rfl) <|
 aJ.cons Tryz.func134 (by kernel_rfl) <|
 aJ.cons Tryz.func135 (by kernel_rfl) <|
 aJ.cons Tryz.func136 (by kernel_rfl) <|
 aJ.cons Tryz.func137 (by kernel_rfl) <|
 aJ.cons Tryz.func138 (by kernel_rfl) <|
 aJ.cons Tryz.func139 (by kernel_rfl) <|
 aJ.cons Tryz.func140 (by kernel_rfl) <|
 aJ.cons Tryz.func141 (by kernel_rfl) <|
 aJ.cons Tryz.func142 (by kernel_rfl) <|
 aJ.cons Tryz.func143 (by kernel_rfl) <|
 aJ.cons Tryz.func144 (by kernel_rfl) <|
 aJ.cons Tryz.func145 (by kernel_rfl) <|
 aJ.cons Tryz.func146 (by kernel_rfl) <|
 aJ.cons Tryz.func147 (by kernel_rfl) <|
 aJ.cons Tryz.func148 (by kernel_rfl) <|
 aJ.cons Tryz.func149 (by kernel_rfl) <|
 aJ.cons Tryz.func150 (by kernel_rfl) <|
 aJ.cons Tryz.func151 (by kernel_rfl) <|
 aJ.cons Tryz.func152 (by kernel_rfl) <|
 aJ.cons Tryz.func153 (by kernel_rfl) <|
 aJ.cons Tryz.func154 (by kernel_rfl) <|
 aJ.cons Tryz.func155 (by kernel_rfl) <|
 aJ.cons Tryz.func156 (by kernel_rfl) <|
 aJ.cons Tryz.func157 (by kernel_rfl) <|
 aJ.cons Tryz.func158 (by kernel_rfl) <|
 aJ.cons Tryz.func159 (by kernel_rfl) <|
 aJ.cons Tryz.func160 (by kernel_rfl) <|
 aJ.cons Tryz.func161 (by kernel_rfl) <|
 aJ.cons Tryz.func162 (by kernel_rfl) <|
 aJ.cons Tryz.func163 (by kernel_rfl) <|
 aJ.cons Tryz.func164 (by kernel_rfl) <|
 aJ.cons Tryz.func165 (by kernel_rfl) <|
 aJ.cons Tryz.func166 (by kernel_rfl) <|
 aJ.cons Tryz.func167 (by kernel_rfl) <|
 aJ.cons Tryz.func168 (by kernel_rfl) <|
 aJ.cons Tryz.func169 (by kernel_rfl) <|
 aJ.cons Tryz.func170 (by kernel_rfl) <|
 aJ.cons Tryz.func171 (by kernel_rfl) <|
 aJ.cons Tryz.func172 (by kernel_rfl) <|
 aJ.cons Tryz.func173 (by kernel_rfl) <|
 aJ.cons Tryz.func174 (by kernel_rfl) <|
 aJ.cons Tryz.func175 (by kernel_rfl) <|
 aJ.cons Tryz.func176 (by kernel_rfl) <|
 aJ.cons Tryz.func177 (by kernel_rfl) <|
 aJ.cons Tryz.func178 (by kernel_rfl) <|
 aJ.cons Tryz.func179 (by kernel_rfl) <|
 aJ.cons Tryz.func180 (by kernel_rfl) <|
 aJ.cons Tryz.func181 (by kernel_rfl) <|
 aJ.cons Tryz.func182 (by kernel_rfl) <|
 aJ.cons Tryz.func183 (by kernel_rfl) <|
 aJ.cons Tryz.func184 (by kernel_rfl) <|
 aJ.cons Tryz.func185 (by kernel_rfl) <|
 aJ.cons Tryz.func186 (by kernel_rfl) <|
 aJ.cons Tryz.func187 (by kernel_rfl) <|
 aJ.cons Tryz.func188 (by kernel_rfl) <|
 aJ.cons Tryz.func189 (by kernel_rfl) <|
 aJ.cons Tryz.func190 (by kernel_rfl) <|
 aJ.cons Tryz.func191 (by kernel_rfl) <|
 aJ.cons Tryz.func192 (by kernel_rfl) <|
 aJ.cons Tryz.func193 (by kernel_rfl) <|
 aJ.cons Tryz.func194 (by kernel_rfl) <|
 aJ.cons Tryz.func195 (by kernel_rfl) <|
 aJ.cons Tryz.func196 (by kernel_rfl) <|
 aJ.cons Tryz.func197 (by kernel_rfl) <|
 aJ.cons Tryz.func198 (by kernel_rfl) <|
 aJ.cons Tryz.func199 (by kernel_rfl) <|
 aJ.cons Tryz.func200 (by kernel_rfl) <|
 aJ.cons Tryz.func201 (by kernel_rfl) <|
 aJ.cons Tryz.func202 (by kernel_rfl) <|
 aJ.nil
theorem YX:Tryz.prog.follows .mixedOrders=true:=by kernel_rfl
def bI(a b:List HP):Prop:= ∀(w:World) (Fs:List HP),bz (a++Fs) w→bz (b++Fs) w
theorem bI.refl(a:List HP):bI a a:=fun _ _ h=>h
theorem bI.trans{a b c:List HP}(h:bI a b)(k:bI b c):bI a c:=fun w Fs o=>k w Fs (h w Fs o)
theorem UW{α:Type}{a b:List α}(h:b.Sublist a): ∃f:Nat→Nat,(∀i j,f i=f j→i=j)∧∀(j:Nat) x,b[j]? =some x→a[f j]? =some x:=by
 induction h with
 | slnil=>exact⟨id,fun _ _ h=>h,fun _ _ h=>h⟩
 | cons x _ ih=>
  obtain⟨f,h1,h2⟩:=ih;exact⟨fun j=>f j+1,fun i j h=>h1 i j (by simpa using h),fun j y hy=>by simpa using h2 j y hy⟩
 | cons_cons x _ ih=>
  obtain⟨f,h1,h2⟩:=ih;refine⟨fun j=>match j with | 0=>0 | j+1=>f j+1,fun i j h=>?_,fun j y hy=>?_⟩
  ·cases i<;>cases j<;>simp at h ⊢
   exact h1 _ _ h
  ·cases j with
   | zero=>simpa using hy
   | succ j=>simpa using h2 j y (by simpa using hy)
theorem bz.sub{a b:List HP}{w:World}(h:bz a w)(hs:b.Sublist a):bz b w:=by
 obtain⟨f,h1,h2⟩:=UW hs;refine h.vE (fun j=>some (f j)) (fun j x hx=> .inr ⟨f j,rfl,h2 j x hx⟩) ?_;intro j j' i hj lq _ _;cases hj;simp only [auq]at lq;exact h1 _ _ lq.symm
theorem bI.sub{a b:List HP}(h:b.Sublist a):bI a b:=fun _ _ o=>o.sub (List.Sublist.append h (List.Sublist.refl _))
theorem bI.put{a:List HP}(i:Nat)(h0 h':HP)(hi:a[i]? =some h0)(hw:h'.wr=true→h0.wr=true)(hp: ∀w S,h0.p w S→∃S':Nat→Prop,(∀k,S' k→S k)∧h'.p w S'):bI a (a.set i h'):=by
 intro w Fs ⟨S,hS⟩;have cF:i<a.length:=(aup.1 hi).1;obtain⟨S',h1,h2⟩:=hp _ _ (hS.at_ i h0 (by rw [auu cF];exact hi)).1;exact bz.weaken hS i h0 h' hi hw S' h1 h2
theorem aq.post{P:Program}{f:Nat}{args:List Value}{pre:List HP}{p q:Value→List HP→Prop}(h:aq P f args pre p)(hpq: ∀v hs,p v hs→∃lP,bI hs lP∧q v lP):aq P f args pre q:=by
 intro w Fs o;refine(h w Fs o).mono ?_;rintro e w' ⟨v,hs,he,hp,ho,lP⟩;obtain⟨yY,h1,h2⟩:=hpq v hs hp;exact⟨v,yY,he,h2,h1 _ _ ho,lP⟩
theorem aq.pre{P:Program}{f:Nat}{args:List Value}{pre YF:List HP}{p:Value→List HP→Prop}(h:aq P f args YF p)(he:bI pre YF):aq P f args pre p:=
 fun w Fs o=>h w Fs (he _ _ o)
theorem Az{w:World}{t s n:Nat}{v:Value}{cs:List Value}{S:Nat→Prop}(h:(aB true t s v n cs).p w S):(aB false t s v n cs).p w (fun k=>S k∧0<n):=by
 obtain⟨hv,hl⟩:=xg h;refine⟨by simp only [Bool.false_eq_true,if_false];exact⟨hl,hv⟩,fun k=>?_⟩;show(S k∧0<n)↔_;rw [h.2 k];simp
theorem D4(k:IntKind)(n:Nat)(f:Nat→Int):aM n [ay k 1 f]=aj k n f:=by
 unfold aM aj
 induction n with
 | zero=>rfl
 | succ n ih=>
  rw [List.range_succ,List.flatMap_append,List.map_append,ih];simp [ay,aj]
theorem aq.bare{P:Program}{C:Ctx}(hT:bB P C.T=true)(B5:aJ P C.FT)(hm:P.follows .mixedOrders=true){f:Nat}{fd:Func}(hf:P.funcs[f]? =some fd)(Q:Value→List HP→Prop)
  {g:F} {s:Prop} (e:nZ C f [] [] {b:=0,v:=0,i:=0,a:=0,bo:=0,p:=0,r:=0} fd=g) (hv:VC P (fun v _=>Q v []) g {iv:=[],av:=[],bo:=[],bv:=[],vv:=[]} (fun _=>LC.none)=s) (hs:s) (D2:gW P C:=by exact gW.none rfl):aq P f [] [] (fun v hs=>Q v []∧hs=[]):=by
 subst e;subst hv;have:=aq.D3 (al:=fun v _=>Q v []) (ρ:={}) (args:=[]) (hp:=[]) hT B5 hm hf (by constructor<;>rfl) hs D2;exact this.post fun v hs h=>⟨[],bI.sub (List.nil_sublist _),h,rfl⟩
theorem aq.sQ{P:Program}{C:Ctx}(hT:bB P C.T=true)(B5:aJ P C.FT)(hm:P.follows .mixedOrders=true){f:Nat}{fd:Func}(hf:P.funcs[f]? =some fd){al:Value→List HP→Prop}{args:List SV}{hp:List Ck}{a_:cG}{ρ:Env}(hl:iG ρ a_)
  {g:F} {s:Prop} (e:nZ C f args hp a_ fd=g) (hv:VC P al g ρ (fun _=>LC.none)=s) (hs:s) (D2:gW P C:=by exact gW.none rfl):aq P f (SV.bH ρ args) (hp.map (Ck.den ρ)) al:=by
 subst e;subst hv;exact aq.D3 hT B5 hm hf hl hs D2
theorem Qo{α:Type}{a b:List α}(h:a.Perm b): ∃f:Nat→Nat,(∀i j,f i=f j→i=j)∧∀(j:Nat) x,b[j]? =some x→a[f j]? =some x:=by
 induction h with
 | nil=>exact⟨id,fun _ _ h=>h,fun _ _ h=>h⟩
 | cons x _ ih=>
  obtain⟨f,h1,h2⟩:=ih;refine⟨fun j=>match j with | 0=>0 | j+1=>f j+1,fun i j h=>?_,fun j y hy=>?_⟩
  ·cases i<;>cases j<;>simp at h ⊢
   exact h1 _ _ h
  ·cases j with
   | zero=>simpa using hy
   | succ j=>simpa using h2 j y (by simpa using hy)
 | swap x y l=>
  refine⟨fun j=>match j with | 0=>1 | 1=>0 | j+2=>j+2,fun i j h=>?_,fun j z hz=>?_⟩
  ·match i,j,h with
   | 0,0,_=>rfl
   | 1,1,_=>rfl
   | 0,1,h=>simp at h
   | 1,0,h=>simp at h
   | 0,j+2,h=>simp at h
   | 1,j+2,h=>simp at h
   | i+2,0,h=>simp at h
   | i+2,1,h=>simp at h
   | i+2,j+2,h=>simpa using h
  ·match j,hz with
   | 0,hz=>simpa using hz
   | 1,hz=>simpa using hz
   | j+2,hz=>simpa using hz
 | trans _ _ ih1 ih2=>
  obtain⟨f,f1,f2⟩:=ih1;obtain⟨g,g1,g2⟩:=ih2;exact⟨fun j=>f (g j),fun i j h=>g1 _ _ (f1 _ _ h),fun j x hx=>f2 _ _ (g2 _ _ hx)⟩
theorem bz.perm{a b:List HP}{w:World}(h:bz a w)(hp:a.Perm b):bz b w:=by
 obtain⟨f,h1,h2⟩:=Qo hp;refine h.vE (fun j=>some (f j)) (fun j x hx=> .inr ⟨f j,rfl,h2 j x hx⟩) ?_;intro j j' i hj lq _ _;cases hj;simp only [auq]at lq;exact h1 _ _ lq.symm
theorem bI.perm{a b:List HP}(h:a.Perm b):bI a b:=fun _ _ o=>o.perm (h.append_right _)
theorem bI.frame{a b:List HP}(h:bI a b)(r:List HP):bI (a++r) (b++r):=fun w Fs o=>by
 rw [List.append_assoc]at o ⊢;exact h w (r++Fs) o
theorem aq.frame{P:Program}{f:Nat}{args:List Value}{pre:List HP}{post:Value→List HP→Prop}(h:aq P f args pre post)(r:List HP):
  aq P f args (pre++r) fun v hs=> ∃yS,hs=yS++r∧post v yS:=by
 intro w Fs o;rw [List.append_assoc]at o;refine(h w (r++Fs) o).mono ?_;rintro e w' ⟨v,hs,he,hp,ho,lP⟩;exact⟨v,hs++r,he,⟨hs,rfl,hp⟩,by rw [List.append_assoc];exact ho,lP⟩
def HP.ex{α:Type}(F:α→HP):HP where
 wr:=true
 p w S:= ∃a,(F a).p w S
 fh w w' S h hk:=by
  obtain⟨a,ha⟩:=h;exact⟨a,(F a).fh w w' S ha hk⟩
theorem bI.ex{α:Type}{F:α→HP}(a:α)(hw:(F a).wr=true):bI [F a] [HP.ex F]:=by
 have:=bI.put (a:=[F a]) 0 (F a) (HP.ex F) rfl (fun _=>hw) fun w S h=>⟨S,fun _ h=>h,⟨a,h⟩⟩
 simpa using this
theorem aq.ex{α:Type}{F:α→HP}{P:Program}{f:Nat}{args:List Value}{R:List HP}{post:Value→List HP→Prop}(h: ∀a,aq P f args (F a::R) post):aq P f args (HP.ex F::R) post:=by
 intro w Fs ⟨S,hS⟩;obtain⟨⟨a,ha⟩,hb⟩:=hS.at_ 0 (HP.ex F) rfl;refine h a w Fs ⟨S,⟨fun i x hx=>?_,fun i j x y fy hx hy hw=>?_⟩⟩
 ·match i,hx with
  | 0,hx=>simp at hx;subst hx;exact⟨ha,hb⟩
  | i+1,hx=>exact hS.at_ (i+1) x (by simpa using hx)
 ·match i,j,fy,hx,hy with
  | 0,0,fy,_,_=>exact absurd rfl fy
  | 0,j+1,_,_,hy=>exact hS.apart 0 (j+1) (HP.ex F) y (by omega) rfl (by simpa using hy) (.inl rfl)
  | i+1,0,_,hx,_=>exact hS.apart (i+1) 0 x (HP.ex F) (by omega) (by simpa using hx) rfl (.inr rfl)
  | i+1,j+1,fy,hx,hy=>exact hS.apart (i+1) (j+1) x y fy (by simpa using hx) (by simpa using hy) hw
def E.closed(e:E):Bool:=e.sc {}
def cG.only(c:cG):Bool:=c.i==0&&c.a==0&&c.bo==0&&c.p==0&&c.r==0
def SV.same:SV→SV→Bool
 | .int k (.lit n),.int k' (.lit m)=>k==k'&&n==m
 | .bool (.lit a),.bool (.lit b)=>a==b
 | .str l,.str l'=>l==l'
 | .agg a,.agg b=>eM (ib a) (ib b)
 | .oL [a,b],.oL [c,d]=>SV.same a c&&SV.same b d
 | _,_=>false
theorem SV.Qp(ρ:Env): ∀{u v:SV},SV.same u v=true→u.val ρ=v.val ρ:=by
 intro u v
 induction u,v using SV.same.induct with
 | case1 k n k' m=>intro h;simp only [SV.same,ai,beq_iff_eq]at h;rw [h.1,h.2]
 | case2 a b=>intro h;simp only [SV.same,beq_iff_eq]at h;rw [h]
 | case3 l l'=>intro h;simp only [SV.same,beq_iff_eq]at h;rw [h]
 | case4 a b=>
  intro h;simp only [SV.same]at h;have:=cn (ρ:=ρ) h;rw [gy,gy]at this;simp only [SV.val,this]
 | case5 a b c d ih1 ih2=>
  intro h;simp only [SV.same,ai]at h;simp only [SV.val,SV.bH,ih1 h.1,ih2 h.2]
 | case6 u v h1 h2 h3 h4 h5=>
  intro h;unfold SV.same at h;split at h
  ·exact(h1 _ _ _ _ rfl rfl).elim
  ·exact(h2 _ _ rfl rfl).elim
  ·exact(h3 _ _ rfl rfl).elim
  ·exact(h4 _ _ rfl rfl).elim
  ·exact(h5 _ _ _ _ rfl rfl).elim
  ·cases h
def F.cM(v:SV):F→Bool
 | .vc b r=>b.sure&&r.cM v
 | .fork c t e=>match c.ur with
  | some true=>t.cM v
  | some false=>e.cM v
  | none=>t.cM v&&e.cM v
 | .ret u _=>u.same v
 | .DB r=>r.cM v
 | .wN r=>r.cM v
 | .Iy r=>r.cM v
 | .pX _ r=>r.cM v
 | .both a b=>a.cM v&&b.cM v
 | _=>false
theorem F.M4{P:Program}{f:F}{v:SV}(x:Value)(hx: ∀ρ,v.val ρ=x)(ρ:Env)(L:Nat→LC)(h:f.cM v=true):VC P (fun u _=>u=x) f ρ L:=by
 induction f generalizing ρ L with
 | vc b r ih=>
  simp only [F.cM,ai]at h;exact⟨(BE.bQ ρ b).1 (xh h.1 ρ),fun _=>ih ρ L h.2⟩
 | fork c t e H9 H_=>
  simp only [F.cM]at h;split at h
  ·rename_i hc;unfold BE.ur at hc;split at hc
   ·rename_i hs;simp only [auq]at hc;exact⟨fun _=>H9 ρ L h,fun hn=>absurd ((BE.bQ ρ c).1 (by rw [lJ hs];exact hc)) hn⟩
   ·cases hc
  ·rename_i hc;unfold BE.ur at hc;split at hc
   ·rename_i hs;simp only [auq]at hc;refine⟨fun hn=>?_,fun _=>H_ ρ L h⟩;have:=(BE.bQ ρ c).2 hn;rw [lJ hs,hc]at this;cases this
   ·cases hc
  ·simp only [ai]at h;exact⟨fun _=>H9 ρ L h.1,fun _=>H_ ρ L h.2⟩
 | ret u hp=>simp only [F.cM]at h;simp only [VC,SV.Qp ρ h,hx]
 | DB r ih=>exact fun _=>ih _ L h
 | wN r ih=>exact fun _=>ih _ L h
 | Iy r ih=>exact ih _ L h
 | pX b r ih=>cases b with
  | true=>exact fun _ _ _=>ih _ L h
  | false=>exact fun _ _=>ih _ L h
 | fail=>simp [F.cM]at h
 | call=>simp [F.cM]at h
 | ext=>simp [F.cM]at h
 | loop=>simp [F.cM]at h
 | back=>simp [F.cM]at h
 | join=>simp [F.cM]at h
 | meet=>simp [F.cM]at h
 | ghost=>simp [F.cM]at h
 | both a b mr rz=>
  simp only [F.cM,ai]at h;exact⟨mr ρ L h.1,rz ρ L h.2⟩
theorem aq.cM{P:Program}{C:Ctx}(hT:bB P C.T=true)(B5:aJ P C.FT)(hm:P.follows .mixedOrders=true){f:Nat}{fd:Func}(hf:P.funcs[f]? =some fd){args:List SV}{v:SV}(x:Value)(hx: ∀ρ,v.val ρ=x)
  (h:(nZ C f args [] {} fd).cM v=true) (D2:gW P C):aq P f (SV.bH Ay args) [] (fun u hs=>u=x∧hs=[]):=by
 have:=aq.D3 (al:=fun u _=>u=x) (ρ:=Ay) (args:=args) (hp:=[]) (a_:={}) hT B5 hm hf (by constructor<;>rfl) (F.M4 x hx Ay _ h) D2;exact this.post fun v hs h=>⟨[],bI.sub (List.nil_sublist _),h,rfl⟩
def uv(a:Nat→Int)(n:Int):Nat→Int:=aw (bX (fun _=>0) 1 (ag n) a) 0 n
theorem M5(a:Nat→Int)(n:Int):dC (uv a n)=(List.range n.toNat).map fun j=>UInt8.ofNat (a j).toNat:=by
 have:=tW {av:=[a],iv:=[n]} (.cU 0) (.var 0);exact this
theorem bz.dup{h:HP}{hs:List HP}{w:World}(hw:h.wr=false)(ho:bz (h::hs) w):bz (h::h::hs) w:=by
 obtain⟨S,hS⟩:=ho;refine⟨fun i=>S (i - 1),⟨?_,?_⟩⟩
 ·intro i x hx;cases i with
  | zero=>
   simp at hx;subst hx;exact hS.at_ 0 _ rfl
  | succ i=>exact hS.at_ i x (by simpa using hx)
 ·intro i j x y nR hx hy wF;cases i with
  | zero=>
   cases j with
   | zero=>exact absurd rfl nR
   | succ j=>
    simp at hx;subst hx;cases j with
    | zero=>
     simp at hy;subst hy;simp [hw]at wF
    | succ j=>exact hS.apart 0 (j+1) _ y (by omega) rfl (by simpa using hy) wF
  | succ i=>
   cases j with
   | zero=>
    simp at hy;subst hy;cases i with
    | zero=>
     simp at hx;subst hx;simp [hw]at wF
    | succ i=>exact hS.apart (i+1) 0 x _ (by omega) (by simpa using hx) rfl wF
   | succ j=>exact hS.apart i j x y (by omega) (by simpa using hx) (by simpa using hy) wF
theorem aq.look{P:Program}{f:Nat}{args:List Value}{h:HP}{Q:Value→Prop}(hw:h.wr=false)(hm:aq P f args [h] fun v _=>Q v):aq P f args [h] fun v hs=>Q v∧hs=[h]:=by
 intro w Fs ho;refine(hm w (h::Fs) (bz.dup hw ho)).mono ?_;rintro e w' ⟨v,hs,rfl,hq,Ii,uu⟩;exact⟨v,[h],rfl,⟨hq,rfl⟩,bz.sub Ii (List.sublist_append_right _ _),uu⟩
theorem aq.know{P:Program}{f:Nat}{args:List Value}{pre:List HP}{p Q:Value→List HP→Prop}(h:aq P f args pre p)(hq: ∀v hs,p v hs→∀(w:World) (Fs:List HP),bz (hs++Fs) w→Q v hs):
  aq P f args pre fun v hs=>p v hs∧Q v hs:=by
 intro w Fs o;refine(h w Fs o).mono ?_;rintro e w' ⟨v,hs,he,hp,ho,lP⟩;exact⟨v,hs,he,⟨hp,hq v hs hp _ _ ho⟩,ho,lP⟩
theorem Gj{t s n:Nat}{v:Value}{cs:List Value}{Fs:List HP}{w:World}(h:bz (aB true t s v n cs::Fs) w): ∃e:Int,v=cc e:=by
 obtain⟨S,hS⟩:=h;obtain⟨⟨ho,_⟩,_⟩:=hS.at_ 0 _ rfl;simp only [if_true]at ho;rcases ho.2 with⟨rfl,_⟩ | ⟨g,o,cap,cur,rfl,_⟩
 ·exact⟨0,rfl⟩
 ·exact⟨Up g o n cap,(CN g o n cap).symm⟩
end Go.RX
