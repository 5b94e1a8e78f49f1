/- SHA-256: what functions of the program and of the document leave to be shown; printed by a program of ours (wip/tools). -/
import Derived.Test.YtphemenngjkfbaaProg
import Derived.Test.YtphemenngjkfbaaRxZt
import Derived.KernelRfl
import Derived.Test.YtphemenngjkfbaaMdAnn
import Derived.Test.YtphemenngjkfbaaRxZg
import Derived.Test.YtphemenngjkfbaaShAnn
import Derived.Test.YtphemenngjkfbaaRxZe

namespace Go.RX
open Go.Proofs
set_option maxRecDepth 100000
def TT : List TI := [
  ⟨3, .int .i64, 1, 8, [.int .i64 (.lit 0)], []⟩,
  ⟨4, .bool, 1, 1, [.bool (.lit false)], []⟩,
  ⟨5, .int .u8, 1, 1, [.int .u8 (.lit 0)], []⟩,
  ⟨22, .slice 32, 1, 24, [.nils], []⟩,
  ⟨24, .ptr 134, 1, 8, [.nilp], []⟩,
  ⟨25, .int .i64, 1, 8, [.int .i64 (.lit 0)], []⟩,
  ⟨28, .map 30 5, 1, 8, [.nilm], []⟩,
  ⟨30, .struct [(5, 0), (5, 1)], 2, 2, [.int .u8 (.lit 0), .int .u8 (.lit 0)], [(some .u8, 2)]⟩,
  ⟨32, .struct [(5, 0), (30, 1), (5, 3), (3, 4)], 5, 16, [.int .u8 (.lit 0), .int .u8 (.lit 0), .int .u8 (.lit 0), .int .u8 (.lit 0), .int .i64 (.lit 0)], [(some .u8, 4), (some .i64, 1)]⟩,
  ⟨40, .func, 1, 8, [.nilf], []⟩,
  ⟨43, .slice 5, 1, 24, [.nils], []⟩,
  ⟨45, .struct [(5, 0), (43, 1), (3, 2)], 3, 40, [.int .u8 (.lit 0), .nils, .int .i64 (.lit 0)], []⟩,
  ⟨48, .slice 30, 1, 24, [.nils], []⟩,
  ⟨52, .slice 53, 1, 24, [.nils], []⟩,
  ⟨53, .int .u16, 1, 2, [.int .u16 (.lit 0)], []⟩,
  ⟨54, .ptr 141, 1, 8, [.nilp], []⟩,
  ⟨60, .ptr 146, 1, 8, [.nilp], []⟩,
  ⟨63, .func, 1, 8, [.nilf], []⟩,
  ⟨64, .arr 8 5, 8, 8, [.seg .u8 8 (.lit 0)], [(some .u8, 8)]⟩,
  ⟨65, .slice 76, 1, 24, [.nils], []⟩,
  ⟨66, .ptr 154, 1, 8, [.nilp], []⟩,
  ⟨68, .map 72 30, 1, 8, [.nilm], []⟩,
  ⟨69, .map 72 74, 1, 8, [.nilm], []⟩,
  ⟨70, .int .u64, 1, 8, [.int .u64 (.lit 0)], []⟩,
  ⟨72, .arr 16 5, 16, 16, [.seg .u8 16 (.lit 0)], [(some .u8, 16)]⟩,
  ⟨73, .arr 32 5, 32, 32, [.seg .u8 32 (.lit 0)], [(some .u8, 32)]⟩,
  ⟨74, .arr 32 5, 32, 32, [.seg .u8 32 (.lit 0)], [(some .u8, 32)]⟩,
  ⟨76, .struct [(5, 0), (30, 1), (70, 3), (72, 4), (5, 20), (30, 21), (74, 23), (5, 55)], 56, 72, [.int .u8 (.lit 0), .int .u8 (.lit 0), .int .u8 (.lit 0), .int .u64 (.lit 0), .seg .u8 16 (.lit 0), .int .u8 (.lit 0), .int .u8 (.lit 0), .int .u8 (.lit 0), .seg .u8 32 (.lit 0), .int .u8 (.lit 0)], [(some .u8, 3), (some .u64, 1), (some .u8, 52)]⟩,
  ⟨80, .map 72 86, 1, 8, [.nilm], []⟩,
  ⟨85, .struct [(72, 0), (5, 16), (4, 17), (5, 18), (70, 19), (70, 20), (70, 21)], 22, 48, [.seg .u8 16 (.lit 0), .int .u8 (.lit 0), .bool (.lit false), .int .u8 (.lit 0), .int .u64 (.lit 0), .int .u64 (.lit 0), .int .u64 (.lit 0)], [(some .u8, 17), (none, 1), (some .u8, 1), (some .u64, 3)]⟩,
  ⟨86, .struct [], 0, 0, [], []⟩,
  ⟨93, .func, 1, 8, [.nilf], []⟩,
  ⟨98, .ptr 172, 1, 8, [.nilp], []⟩,
  ⟨100, .slice 111, 1, 24, [.nils], []⟩,
  ⟨101, .slice 85, 1, 24, [.nils], []⟩,
  ⟨103, .struct [(100, 0), (65, 1), (101, 2)], 3, 72, [.nils, .nils, .nils], []⟩,
  ⟨107, .int .u32, 1, 4, [.int .u32 (.lit 0)], []⟩,
  ⟨109, .struct [(5, 0), (72, 1), (30, 17), (5, 19), (74, 20), (107, 52), (43, 53), (5, 54)], 55, 88, [.int .u8 (.lit 0), .seg .u8 16 (.lit 0), .int .u8 (.lit 0), .int .u8 (.lit 0), .int .u8 (.lit 0), .seg .u8 32 (.lit 0), .int .u32 (.lit 0), .nils, .int .u8 (.lit 0)], []⟩,
  ⟨111, .struct [(30, 0), (109, 2)], 57, 96, [.int .u8 (.lit 0), .int .u8 (.lit 0), .int .u8 (.lit 0), .seg .u8 16 (.lit 0), .int .u8 (.lit 0), .int .u8 (.lit 0), .int .u8 (.lit 0), .seg .u8 32 (.lit 0), .int .u32 (.lit 0), .nils, .int .u8 (.lit 0)], []⟩,
  ⟨119, .slice 123, 1, 24, [.nils], []⟩,
  ⟨120, .ptr 130, 1, 8, [.nilp], []⟩,
  ⟨123, .struct [(5, 0), (5, 1), (53, 2), (5, 3)], 4, 6, [.int .u8 (.lit 0), .int .u8 (.lit 0), .int .u16 (.lit 0), .int .u8 (.lit 0)], [(some .u8, 2), (some .u16, 1), (some .u8, 1)]⟩,
  ⟨125, .arr 4 98, 4, 32, [.nilp, .nilp, .nilp, .nilp], []⟩,
  ⟨126, .slice 216, 1, 24, [.nils], []⟩,
  ⟨127, .map 30 188, 1, 8, [.nilm], []⟩,
  ⟨128, .map 30 101, 1, 8, [.nilm], []⟩,
  ⟨130, .struct [(70, 0), (125, 1), (126, 5), (53, 6), (68, 7), (69, 8), (65, 9), (127, 10), (128, 11), (4, 12)], 13, 136, [.int .u64 (.lit 0), .nilp, .nilp, .nilp, .nilp, .nils, .int .u16 (.lit 0), .nilm, .nilm, .nils, .nilm, .nilm, .bool (.lit false)], []⟩,
  ⟨134, .struct [(5, 0), (43, 1), (3, 2)], 3, 40, [.int .u8 (.lit 0), .nils, .int .i64 (.lit 0)], []⟩,
  ⟨138, .ptr 45, 1, 8, [.nilp], []⟩,
  ⟨141, .struct [(52, 0), (3, 1)], 2, 32, [.nils, .int .i64 (.lit 0)], []⟩,
  ⟨144, .slice 3, 1, 24, [.nils], []⟩,
  ⟨146, .struct [(144, 0), (3, 1)], 2, 32, [.nils, .int .i64 (.lit 0)], []⟩,
  ⟨151, .map 72 161, 1, 8, [.nilm], []⟩,
  ⟨152, .map 30 155, 1, 8, [.nilm], []⟩,
  ⟨154, .struct [(64, 0), (151, 8), (152, 9), (70, 10)], 11, 32, [.seg .u8 8 (.lit 0), .nilm, .nilm, .int .u64 (.lit 0)], []⟩,
  ⟨155, .ptr 157, 1, 8, [.nilp], []⟩,
  ⟨157, .struct [(5, 0), (72, 1), (4, 17), (5, 18), (30, 19), (70, 21), (70, 22), (80, 23), (101, 24)], 25, 72, [.int .u8 (.lit 0), .seg .u8 16 (.lit 0), .bool (.lit false), .int .u8 (.lit 0), .int .u8 (.lit 0), .int .u8 (.lit 0), .int .u64 (.lit 0), .int .u64 (.lit 0), .nilm, .nils], []⟩,
  ⟨161, .ptr 163, 1, 8, [.nilp], []⟩,
  ⟨163, .struct [(30, 0), (5, 2), (48, 3), (4, 4), (4, 5), (30, 6), (4, 8), (74, 9)], 41, 72, [.int .u8 (.lit 0), .int .u8 (.lit 0), .int .u8 (.lit 0), .nils, .bool (.lit false), .bool (.lit false), .int .u8 (.lit 0), .int .u8 (.lit 0), .bool (.lit false), .seg .u8 32 (.lit 0)], []⟩,
  ⟨168, .ptr 205, 1, 8, [.nilp], []⟩,
  ⟨170, .ptr 208, 1, 8, [.nilp], []⟩,
  ⟨172, .struct [(30, 0), (64, 2), (168, 10), (5, 11), (72, 12), (4, 28), (5, 29), (30, 30), (74, 32), (74, 64), (74, 96), (24, 128), (170, 129), (70, 130), (70, 131), (70, 132), (70, 133), (70, 134), (107, 135)], 136, 208, [.int .u8 (.lit 0), .int .u8 (.lit 0), .seg .u8 8 (.lit 0), .nilp, .int .u8 (.lit 0), .seg .u8 16 (.lit 0), .bool (.lit false), .int .u8 (.lit 0), .int .u8 (.lit 0), .int .u8 (.lit 0), .seg .u8 32 (.lit 0), .seg .u8 32 (.lit 0), .seg .u8 32 (.lit 0), .nilp, .nilp, .int .u64 (.lit 0), .int .u64 (.lit 0), .int .u64 (.lit 0), .int .u64 (.lit 0), .int .u64 (.lit 0), .int .u32 (.lit 0)], []⟩,
  ⟨177, .ptr 103, 1, 8, [.nilp], []⟩,
  ⟨188, .map 72 5, 1, 8, [.nilm], []⟩,
  ⟨189, .int .u64, 1, 8, [.int .u64 (.lit 0)], []⟩,
  ⟨198, .slice 43, 1, 24, [.nils], []⟩,
  ⟨199, .ptr 227, 1, 8, [.nilp], []⟩,
  ⟨203, .slice 72, 1, 24, [.nils], []⟩,
  ⟨205, .struct [(203, 0), (3, 1)], 2, 32, [.nils, .int .i64 (.lit 0)], []⟩,
  ⟨208, .struct [(48, 0), (3, 1)], 2, 32, [.nils, .int .i64 (.lit 0)], []⟩,
  ⟨216, .struct [(30, 0), (111, 2)], 59, 104, [.int .u8 (.lit 0), .int .u8 (.lit 0), .int .u8 (.lit 0), .int .u8 (.lit 0), .int .u8 (.lit 0), .seg .u8 16 (.lit 0), .int .u8 (.lit 0), .int .u8 (.lit 0), .int .u8 (.lit 0), .seg .u8 32 (.lit 0), .int .u32 (.lit 0), .nils, .int .u8 (.lit 0)], []⟩,
  ⟨219, .slice 107, 1, 24, [.nils], []⟩,
  ⟨221, .slice 70, 1, 24, [.nils], []⟩,
  ⟨223, .arr 3 3, 3, 24, [.seg .i64 3 (.lit 0)], [(some .i64, 3)]⟩,
  ⟨225, .struct [(223, 0), (223, 3), (223, 6), (223, 9)], 12, 96, [.seg .i64 3 (.lit 0), .seg .i64 3 (.lit 0), .seg .i64 3 (.lit 0), .seg .i64 3 (.lit 0)], [(some .i64, 12)]⟩,
  ⟨227, .struct [(219, 0), (219, 1), (3, 2), (225, 3)], 15, 152, [.nils, .nils, .int .i64 (.lit 0), .seg .i64 3 (.lit 0), .seg .i64 3 (.lit 0), .seg .i64 3 (.lit 0), .seg .i64 3 (.lit 0)], []⟩,
  ⟨237, .arr 8 107, 8, 32, [.seg .u32 8 (.lit 0)], [(some .u32, 8)]⟩]
theorem okT : checkT Try.prog TT = true := by kernel_rfl
noncomputable def FT : List (Nat × Func) := [(2, Try.f2), (3, Try.f3), (4, Try.f4), (5, Try.f5), (6, Try.f6), (7, Try.f7), (8, Try.f8), (9, Try.f9), (10, Try.f10), (11, Try.f11), (12, Try.f12), (13, Try.f13), (14, Try.f14), (15, Try.f15), (16, Try.f16), (17, Try.f17), (18, Try.f18), (19, Try.f19), (20, Try.f20), (21, Try.f21), (22, Try.f22), (23, Try.f23), (24, Try.f24), (25, Try.f25), (26, Try.f26), (27, Try.f27), (28, Try.f28), (29, Try.f29), (30, Try.f30), (31, Try.f31), (32, Try.f32), (33, Try.f33), (34, Try.f34), (35, Try.f35), (36, Try.f36), (37, Try.f37), (38, Try.f38), (39, Try.f39), (40, Try.f40), (41, Try.f41), (42, Try.f42), (43, Try.f43), (44, Try.f44), (45, Try.f45), (46, Try.f46), (47, Try.f47), (48, Try.f48), (49, Try.f49), (50, Try.f50), (51, Try.f51), (52, Try.f52), (53, Try.f53), (54, Try.f54), (55, Try.f55), (56, Try.f56), (57, Try.f57), (58, Try.f58), (59, Try.f59), (60, Try.f60), (61, Try.f61), (62, Try.f62), (63, Try.f63), (64, Try.f64), (65, Try.f65), (66, Try.f66), (67, Try.f67), (68, Try.f68), (69, Try.f69), (70, Try.f70), (71, Try.f71), (72, Try.f72), (73, Try.f73), (74, Try.f74), (75, Try.f75), (76, Try.f76), (77, Try.f77), (78, Try.f78), (79, Try.f79), (80, Try.f80), (81, Try.f81), (82, Try.f82), (83, Try.f83), (84, Try.f84), (85, Try.f85), (86, Try.f86), (87, Try.f87), (88, Try.f88), (89, Try.f89), (90, Try.f90), (91, Try.f91), (92, Try.f92), (93, Try.f93), (94, Try.f94), (95, Try.f95), (96, Try.f96), (97, Try.f97), (98, Try.f98), (99, Try.f99), (100, Try.f100), (101, Try.f101), (102, Try.f102), (103, Try.f103), (104, Try.f104), (105, Try.f105), (106, Try.f106), (107, Try.f107), (108, Try.f108), (109, Try.f109), (110, Try.f110), (111, Try.f111), (112, Try.f112), (113, Try.f113), (114, Try.f114), (115, Try.f115), (116, Try.f116), (117, Try.f117), (118, Try.f118), (119, Try.f119), (120, Try.f120), (121, Try.f121), (122, Try.f122), (123, Try.f123), (124, Try.f124), (125, Try.f125), (126, Try.f126), (127, Try.f127), (128, Try.f128), (129, Try.f129), (130, Try.f130), (131, Try.f131), (132, Try.f132), (133, Try.f133), (134, Try.f134), (135, Try.f135), (137, Try.f137), (138, Try.f138), (139, Try.f139), (140, Try.f140), (141, Try.f141), (142, Try.f142), (143, Try.f143)]
theorem okFT : FTOk 
  Try.prog FT :=
  FTOk.cons Try.func2 (by kernel_rfl) <|
  FTOk.cons Try.func3 (by kernel_rfl) <|
  FTOk.cons Try.func4 (by kernel_rfl) <|
  FTOk.cons Try.func5 (by kernel_rfl) <|
  FTOk.cons Try.func6 (by kernel_rfl) <|
  FTOk.cons Try.func7 (by kernel_rfl) <|
  FTOk.cons Try.func8 (by kernel_rfl) <|
  FTOk.cons Try.func9 (by kernel_rfl) <|
  FTOk.cons Try.func10 (by kernel_rfl) <|
  FTOk.cons Try.func11 (by kernel_rfl) <|
  FTOk.cons Try.func12 (by kernel_rfl) <|
  FTOk.cons Try.func13 (by kernel_rfl) <|
  FTOk.cons Try.func14 (by kernel_rfl) <|
  FTOk.cons Try.func15 (by kernel_rfl) <|
  FTOk.cons Try.func16 (by kernel_rfl) <|
  FTOk.cons Try.func17 (by kernel_rfl) <|
  FTOk.cons Try.func18 (by kernel_rfl) <|
  FTOk.cons Try.func19 (by kernel_rfl) <|
  FTOk.cons Try.func20 (by kernel_rfl) <|
  FTOk.cons Try.func21 (by kernel_rfl) <|
  FTOk.cons Try.func22 (by kernel_rfl) <|
  FTOk.cons Try.func23 (by kernel_rfl) <|
  FTOk.cons Try.func24 (by kernel_rfl) <|
  FTOk.cons Try.func25 (by kernel_rfl) <|
  FTOk.cons Try.func26 (by kernel_rfl) <|
  FTOk.cons Try.func27 (by kernel_rfl) <|
  FTOk.cons Try.func28 (by kernel_rfl) <|
  FTOk.cons Try.func29 (by kernel_rfl) <|
  FTOk.cons Try.func30 (by kernel_rfl) <|
  FTOk.cons Try.func31 (by kernel_rfl) <|
  FTOk.cons Try.func32 (by kernel_rfl) <|
  FTOk.cons Try.func33 (by kernel_rfl) <|
  FTOk.cons Try.func34 (by kernel_rfl) <|
  FTOk.cons Try.func35 (by kernel_rfl) <|
  FTOk.cons Try.func36 (by kernel_rfl) <|
  FTOk.cons Try.func37 (by kernel_rfl) <|
  FTOk.cons Try.func38 (by kernel_rfl) <|
  FTOk.cons Try.func39 (by kernel_rfl) <|
  FTOk.cons Try.func40 (by kernel_rfl) <|
  FTOk.cons Try.func41 (by kernel_rfl) <|
  FTOk.cons Try.func42 (by kernel_rfl) <|
  FTOk.cons Try.func43 (by kernel_rfl) <|
  FTOk.cons Try.func44 (by kernel_rfl) <|
  FTOk.cons Try.func45 (by kernel_rfl) <|
  FTOk.cons Try.func46 (by kernel_rfl) <|
  FTOk.cons Try.func47 (by kernel_rfl) <|
  FTOk.cons Try.func48 (by kernel_rfl) <|
  FTOk.cons Try.func49 (by kernel_rfl) <|
  FTOk.cons Try.func50 (by kernel_rfl) <|
  FTOk.cons Try.func51 (by kernel_rfl) <|
  FTOk.cons Try.func52 (by kernel_rfl) <|
  FTOk.cons Try.func53 (by kernel_rfl) <|
  FTOk.cons Try.func54 (by kernel_rfl) <|
  FTOk.cons Try.func55 (by kernel_rfl) <|
  FTOk.cons Try.func56 (by kernel_rfl) <|
  FTOk.cons Try.func57 (by kernel_rfl) <|
  FTOk.cons Try.func58 (by kernel_rfl) <|
  FTOk.cons Try.func59 (by kernel_rfl) <|
  FTOk.cons Try.func60 (by kernel_rfl) <|
  FTOk.cons Try.func61 (by kernel_rfl) <|
  FTOk.cons Try.func62 (by kernel_rfl) <|
  FTOk.cons Try.func63 (by kernel_rfl) <|
  FTOk.cons Try.func64 (by kernel_rfl) <|
  FTOk.cons Try.func65 (by kernel_rfl) <|
  FTOk.cons Try.func66 (by kernel_rfl) <|
  FTOk.cons Try.func67 (by kernel_rfl) <|
  FTOk.cons Try.func68 (by kernel_rfl) <|
  FTOk.cons Try.func69 (by kernel_rfl) <|
  FTOk.cons Try.func70 (by kernel_rfl) <|
  FTOk.cons Try.func71 (by kernel_rfl) <|
  FTOk.cons Try.func72 (by kernel_rfl) <|
  FTOk.cons Try.func73 (by kernel_rfl) <|
  FTOk.cons Try.func74 (by kernel_rfl) <|
  FTOk.cons Try.func75 (by kernel_rfl) <|
  FTOk.cons Try.func76 (by kernel_rfl) <|
  FTOk.cons Try.func77 (by kernel_rfl) <|
  FTOk.cons Try.func78 (by kernel_rfl) <|
  FTOk.cons Try.func79 (by kernel_rfl) <|
  FTOk.cons Try.func80 (by kernel_rfl) <|
  FTOk.cons Try.func81 (by kernel_rfl) <|
  FTOk.cons Try.func82 (by kernel_rfl) <|
  FTOk.cons Try.func83 (by kernel_rfl) <|
  FTOk.cons Try.func84 (by kernel_rfl) <|
  FTOk.cons Try.func85 (by kernel_rfl) <|
  FTOk.cons Try.func86 (by kernel_rfl) <|
  FTOk.cons Try.func87 (by kernel_rfl) <|
  FTOk.cons Try.func88 (by kernel_rfl) <|
  FTOk.cons Try.func89 (by kernel_rfl) <|
  FTOk.cons Try.func90 (by kernel_rfl) <|
  FTOk.cons Try.func91 (by kernel_rfl) <|
  FTOk.cons Try.func92 (by kernel_rfl) <|
  FTOk.cons Try.func93 (by kernel_rfl) <|
  FTOk.cons Try.func94 (by kernel_rfl) <|
  FTOk.cons Try.func95 (by kernel_rfl) <|
  FTOk.cons Try.func96 (by kernel_rfl) <|
  FTOk.cons Try.func97 (by kernel_rfl) <|
  FTOk.cons Try.func98 (by kernel_rfl) <|
  FTOk.cons Try.func99 (by kernel_rfl) <|
  FTOk.cons Try.func100 (by kernel_rfl) <|
  FTOk.cons Try.func101 (by kernel_rfl) <|
  FTOk.cons Try.func102 (by kernel_rfl) <|
  FTOk.cons Try.func103 (by kernel_rfl) <|
  FTOk.cons Try.func104 (by kernel_rfl) <|
  FTOk.cons Try.func105 (by kernel_rfl) <|
  FTOk.cons Try.func106 (by kernel_rfl) <|
  FTOk.cons Try.func107 (by kernel_rfl) <|
  FTOk.cons Try.func108 (by kernel_rfl) <|
  FTOk.cons Try.func109 (by kernel_rfl) <|
  FTOk.cons Try.func110 (by kernel_rfl) <|
  FTOk.cons Try.func111 (by kernel_rfl) <|
  FTOk.cons Try.func112 (by kernel_rfl) <|
  FTOk.cons Try.func113 (by kernel_rfl) <|
  FTOk.cons Try.func114 (by kernel_rfl) <|
  FTOk.cons Try.func115 (by kernel_rfl) <|
  FTOk.cons Try.func116 (by kernel_rfl) <|
  FTOk.cons Try.func117 (by kernel_rfl) <|
  FTOk.cons Try.func118 (by kernel_rfl) <|
  FTOk.cons Try.func119 (by kernel_rfl) <|
  FTOk.cons Try.func120 (by kernel_rfl) <|
  FTOk.cons Try.func121 (by kernel_rfl) <|
  FTOk.cons Try.func122 (by kernel_rfl) <|
  FTOk.cons Try.func123 (by kernel_rfl) <|
  FTOk.cons Try.func124 (by kernel_rfl) <|
  FTOk.cons Try.func125 (by kernel_rfl) <|
  FTOk.cons Try.func126 (by kernel_rfl) <|
  FTOk.cons Try.func127 (by kernel_rfl) <|
  FTOk.cons Try.func128 (by kernel_rfl) <|
  FTOk.cons Try.func129 (by kernel_rfl) <|
  FTOk.cons Try.func130 (by kernel_rfl) <|
  FTOk.cons Try.func131 (by kernel_rfl) <|
  FTOk.cons Try.func132 (by kernel_rfl) <|
  FTOk.cons Try.func133 (by kernel_rfl) <|
  FTOk.cons Try.func134 (by kernel_rfl) <|
  FTOk.cons Try.func135 (by kernel_rfl) <|
  FTOk.cons Try.func137 (by kernel_rfl) <|
  FTOk.cons Try.func138 (by kernel_rfl) <|
  FTOk.cons Try.func139 (by kernel_rfl) <|
  FTOk.cons Try.func140 (by kernel_rfl) <|
  FTOk.cons Try.func141 (by kernel_rfl) <|
  FTOk.cons Try.func142 (by kernel_rfl) <|
  FTOk.cons Try.func143 (by kernel_rfl) <|
  FTOk.nil
theorem okM : Try.prog.follows .mixedOrders = true := by kernel_rfl
end Go.RX

namespace Go.RX.Md
open Go.RX Go.Proofs
noncomputable def cx : Ctx := { T := TT, FT := FT, calls := calls }
end Go.RX.Md

namespace Go.RX.Md
open Go.RX Go.Proofs
set_option maxRecDepth 100000
noncomputable def fm_works : F := runF cx 46 ([]) ([]) ({ b := 0, v := 0, i := 0, a := 0, bo := 0, p := 0, r := 0 }) Try.f46
def st_works (P : Program) (Post : Value → List HP → Prop) : Prop :=
∀ _ : Nat, ∀ _ : Nat, ∀ _ : Nat, ∀ _ : Nat, ∀ _ : Nat, ∀ _ : Nat, ∀ _ : Nat, ∀ _ : Nat, ∀ _ : Nat, ∀ _ : Nat, ∀ _ : Nat, ∀ _ : Nat, ∀ _ : Nat, ∀ _ : Nat, ∀ _ : Nat, ∀ _ : V1, ∀ _ : Nat, ∀ _ : V1, ∀ _ : Nat, ∀ _ : Nat, ∀ _ : Nat, ∀ _ : Nat, ∀ _ : V1, ∀ _ : Nat, ∀ _ : Nat, ∀ _ : Nat, ∀ _ : Nat, ∀ (_ _ : Nat) (_ : Loop), ∀ _ : Nat, ∀ _ : Nat, ∀ _ : Nat, ∀ _ : Nat, ∀ _ : V1, ∀ _ : Nat, ∀ _ : Nat, ∀ _ : Nat, ∀ _ : Nat, ∀ _ : V1, ∀ _ : Nat, ∀ _ : Nat, ∀ _ : Nat, ∀ _ : Nat, ∀ _ : Nat, ∀ _ : Nat, ∀ _ : Nat, ∀ _ : Nat, ∀ _ : Nat, ∀ _ : Nat, ∀ _ : Nat, ∃ post, Meets P 44 [.agg (.int .u8 5 :: (segCells .u8 15 (fun _ => 0) ++ ([]))).toArray, .agg (.int .u8 1 :: (segCells .u8 31 (fun _ => 0) ++ ([]))).toArray, .agg (.int .u8 2 :: (segCells .u8 31 (fun _ => 0) ++ ([]))).toArray, .agg #[.int .u8 0, .int .u8 0], .agg #[.int .u8 1, .int .u8 1]] [] post ∧
∀ x hs, post x hs → ∃ A0 : (Nat → Int), x = .agg (segCells .u8 32 A0 ++ ([])).toArray ∧ hs = [] ∧
∀ _ : Nat, ∀ _ : Nat, ∀ _ : Nat, ∀ _ : V1, ∀ _ : Nat, ∀ _ : Nat, ∀ _ : Nat, ∀ _ : Nat, ∀ _ : Nat, ∀ (_ _ : Nat) (_ : Loop), ∀ _ : Nat, ∀ _ : Nat, ∀ _ : Nat, ∀ _ : Nat, ∀ _ : V1, ∀ _ : Nat, ∀ _ : Nat, ∀ _ : Nat, ∀ _ : V1, ∀ _ : Nat, ∀ _ : Nat, ∀ _ : Nat, ∀ _ : Nat, ∀ _ : Nat, ∀ _ : Nat, ∀ _ : Nat, ∀ _ : Nat, ∀ _ : Nat, ∀ _ : Nat, ∀ _ : Nat, ∀ _ : Nat, ∀ _ : Nat, ∀ _ : Nat, ∀ _ : Nat, ∀ _ : Nat, ∀ _ : V1, ∀ _ : Nat, ∀ _ : Nat, ∀ _ : Nat, ∀ _ : Nat, ∀ _ : Nat, ∀ _ : Nat, ∀ _ : Nat, ∀ _ : Nat, ∀ _ : Nat, ∃ post, Meets P 111 [] [] post ∧
∀ x hs, post x hs → ∃ b87 : Nat, ∃ v9 : V1, ∃ v10 : V1, ∃ A1 : (Nat → Int), ∃ A2 : (Nat → Int), x = .pointer (some ⟨b87, 0, none⟩) ∧ hs = [sliHP true 107 1 v9.v 8 (tabL 8 [colI .u32 1 A1]), sliHP true 107 1 v10.v 64 (tabL 64 [colI .u32 1 A2]), rowHP b87 true ([v9.v, v10.v, .int .i64 4, .int .i64 2, .int .i64 13, .int .i64 22, .int .i64 6, .int .i64 11, .int .i64 25, .int .i64 7, .int .i64 18, .int .i64 3, .int .i64 17, .int .i64 19, .int .i64 10])] ∧
∀ _ : V1, ∀ _ : Nat, ∀ _ : V1, ∀ _ : Nat, ∀ _ : V1, ∀ _ : Nat, ∀ _ : V1, ∀ _ : Nat, ∀ _ : V1, ∀ _ : Nat, ∀ _ : V1, ∀ _ : Nat, ∀ _ : V1, ∀ _ : Nat, ∀ _ : V1, ∀ _ : Nat, ∀ _ : V1, ∀ _ : Nat, ∀ _ : V1, ∀ _ : Nat, ∀ _ : V1, ∀ _ : Nat, ∀ _ : V1, ∀ _ : Nat, ∀ _ : V1, ∀ _ : Nat, ∀ _ : V1, ∀ _ : Nat, ∀ _ : V1, ∀ _ : Nat, ∀ _ : V1, ∀ _ : Nat, ∀ _ : V1, ∀ _ : Nat, ∀ _ : V1, ∀ _ : Nat, ∀ _ : V1, ∀ _ : Nat, ∀ _ : V1, ∀ _ : Nat, ∀ _ : V1, ∀ _ : Nat, ∀ _ : V1, ∀ _ : Nat, ∀ _ : V1, ∀ _ : Nat, ∀ _ : V1, ∀ _ : Nat, ∀ _ : V1, ∀ _ : V1, ∀ v37 : V1, ∃ post, Meets P 127 [.pointer (some ⟨b87, 0, none⟩), (subSlice 1 v37.v 0 64 none)] [rowHP b87 true ([v9.v, v10.v, .int .i64 4, .int .i64 2, .int .i64 13, .int .i64 22, .int .i64 6, .int .i64 11, .int .i64 25, .int .i64 7, .int .i64 18, .int .i64 3, .int .i64 17, .int .i64 19, .int .i64 10]), sliHP true 107 1 v9.v 8 (tabL 8 [colI .u32 1 A1]), sliHP true 107 1 v10.v 64 (tabL 64 [colI .u32 1 A2]), sliHP true 5 1 v37.v 64 (tabL 64 [colI .u8 1 (splF (updF (updF (updF (updF (updF (updF (updF (updF (updF (updF (updF (updF (updF (updF (updF (updF (updF (updF (updF (updF (updF (updF (updF (splF A0 32 1 (updF (fun _ => 0) 0 128)) 33 0) 34 0) 35 0) 36 0) 37 0) 38 0) 39 0) 40 0) 41 0) 42 0) 43 0) 44 0) 45 0) 46 0) 47 0) 48 0) 49 0) 50 0) 51 0) 52 0) 53 0) 54 0) 55 0) 56 8 (updF (updF (updF (updF (updF (updF (updF (updF (fun _ => 0) 7 0) 6 1) 5 0) 4 0) 3 0) 2 0) 1 0) 0 0))])] post ∧
∀ x hs, post x hs → ∃ A3 : (Nat → Int), x = .tuple #[] ∧ hs = [rowHP b87 true ([v9.v, v10.v, .int .i64 4, .int .i64 2, .int .i64 13, .int .i64 22, .int .i64 6, .int .i64 11, .int .i64 25, .int .i64 7, .int .i64 18, .int .i64 3, .int .i64 17, .int .i64 19, .int .i64 10]), sliHP true 107 1 v9.v 8 (tabL 8 [colI .u32 1 A3]), sliHP true 107 1 v10.v 64 (tabL 64 [colI .u32 1 A2]), sliHP true 5 1 v37.v 64 (tabL 64 [colI .u8 1 (splF (updF (updF (updF (updF (updF (updF (updF (updF (updF (updF (updF (updF (updF (updF (updF (updF (updF (updF (updF (updF (updF (updF (updF (splF A0 32 1 (updF (fun _ => 0) 0 128)) 33 0) 34 0) 35 0) 36 0) 37 0) 38 0) 39 0) 40 0) 41 0) 42 0) 43 0) 44 0) 45 0) 46 0) 47 0) 48 0) 49 0) 50 0) 51 0) 52 0) 53 0) 54 0) 55 0) 56 8 (updF (updF (updF (updF (updF (updF (updF (updF (fun _ => 0) 7 0) 6 1) 5 0) 4 0) 3 0) 2 0) 1 0) 0 0))])] ∧
∀ _ : Nat, ∀ _ : V1, ∀ _ : Nat, ∀ _ : V1, ∀ _ : Nat, ∀ _ : V1, ∀ _ : Nat, ∀ _ : V1, ∀ _ : Nat, ∀ _ : V1, ∀ _ : Nat, ∀ _ : V1, ∀ _ : Nat, ∀ _ : V1, ∀ _ : Nat, ∀ _ : V1, ∀ _ : Nat, ∀ _ : V1, ∀ _ : Nat, ∀ _ : V1, ∀ _ : Nat, ∀ _ : V1, ∀ _ : Nat, ∀ _ : V1, ∀ _ : Nat, ∀ _ : V1, ∀ _ : Nat, ∀ _ : V1, ∀ _ : Nat, ∀ _ : V1, ∀ _ : Nat, ∀ _ : V1, ∀ _ : Nat, ∀ _ : V1, ∀ _ : Nat, ∀ _ : V1, ∀ _ : Nat, ∀ _ : V1, ∀ _ : Nat, ∀ _ : V1, ∀ _ : Nat, ∀ _ : V1, ∀ _ : Nat, ∀ _ : V1, ∀ _ : Nat, ∀ _ : V1, ∀ _ : Nat, ∀ _ : V1, ∀ _ : Nat, ∀ _ : V1, ∀ _ : Nat, ∀ _ : V1, ∀ _ : Nat, ∀ _ : V1, ∀ _ : Nat, ∀ _ : V1, ∀ _ : Nat, ∀ _ : V1, ∀ _ : Nat, ∀ _ : V1, ∀ _ : Nat, ∀ _ : V1, ∀ _ : Nat, ∀ _ : V1, ∀ _ : Nat, ∀ _ : Nat, ∀ _ : V1, ∀ _ : Nat, ∀ _ : Nat, ∀ _ : Nat, ∃ post, Meets P 45 [.agg (.int .u8 5 :: (segCells .u8 15 (fun _ => 0) ++ ([]))).toArray, .agg (.int .u8 1 :: (segCells .u8 31 (fun _ => 0) ++ ([]))).toArray, .agg (.int .u8 2 :: (segCells .u8 31 (fun _ => 0) ++ ([]))).toArray, .agg #[.int .u8 0, .int .u8 0], .agg #[.int .u8 1, .int .u8 1]] [] post ∧
∀ x hs, post x hs → ∃ A4 : (Nat → Int), x = .agg (segCells .u8 32 A4 ++ ([])).toArray ∧ hs = [] ∧
 Post (.bool ((List.range 32).all fun j => A0 j == A4 j)) []
theorem vc_works (P : Program) (Post : Value → List HP → Prop) (L : Nat → LC) : VC P (fun v _ => Post v []) fm_works { iv := [], av := [], bo := [], bv := [], vv := [] } L = st_works P Post := by kernel_rfl
theorem run_works : runF cx 46 ([]) ([]) ({ b := 0, v := 0, i := 0, a := 0, bo := 0, p := 0, r := 0 }) Try.f46 = fm_works := rfl
noncomputable def fm_law : F := runF cx 9 ([Go.RX.SV.agg [Go.RX.SV.seg (Go.IntKind.u8) 16 (Go.RX.E.avar 0)], Go.RX.SV.agg [Go.RX.SV.seg (Go.IntKind.u8) 32 (Go.RX.E.avar 1)], Go.RX.SV.agg [Go.RX.SV.seg (Go.IntKind.u8) 32 (Go.RX.E.avar 2)], Go.RX.SV.agg [Go.RX.SV.int (Go.IntKind.u8) (Go.RX.E.var 0), Go.RX.SV.int (Go.IntKind.u8) (Go.RX.E.var 1)], Go.RX.SV.agg [Go.RX.SV.int (Go.IntKind.u8) (Go.RX.E.var 2), Go.RX.SV.int (Go.IntKind.u8) (Go.RX.E.var 3)]]) ([]) ({ b := 0, v := 0, i := 4, a := 3, bo := 0, p := 0, r := 0 }) Try.f9
def st_law (P : Program) (Post : Value → List HP → Prop) (x0 : Int) (x1 : Int) (x2 : Int) (x3 : Int) (A0 : Nat → Int) (A1 : Nat → Int) (A2 : Nat → Int) : Prop :=
∀ b0 : Nat, ∀ b1 : Nat, ∀ b2 : Nat, ∀ b3 : Nat, ∀ b4 : Nat, ∃ post, Meets P 44 [.agg (segCells .u8 16 A0 ++ ([])).toArray, .agg (segCells .u8 32 A1 ++ ([])).toArray, .agg (segCells .u8 32 A2 ++ ([])).toArray, .agg #[.int .u8 x0, .int .u8 x1], .agg #[.int .u8 x2, .int .u8 x3]] [] post ∧
∀ x hs, post x hs → ∃ A3 : (Nat → Int), x = .agg (segCells .u8 32 A3 ++ ([])).toArray ∧ hs = [] ∧
∃ post, Meets P 45 [.agg (segCells .u8 16 A0 ++ ([])).toArray, .agg (segCells .u8 32 A1 ++ ([])).toArray, .agg (segCells .u8 32 A2 ++ ([])).toArray, .agg #[.int .u8 x0, .int .u8 x1], .agg #[.int .u8 x2, .int .u8 x3]] [] post ∧
∀ x hs, post x hs → ∃ A4 : (Nat → Int), x = .agg (segCells .u8 32 A4 ++ ([])).toArray ∧ hs = [] ∧
 Fork (∀ j, j < 32 → A3 j = A4 j) (
  ∃ post, Meets P 44 [.agg (segCells .u8 16 A0 ++ ([])).toArray, .agg (segCells .u8 32 A2 ++ ([])).toArray, .agg (segCells .u8 32 A1 ++ ([])).toArray, .agg #[.int .u8 x2, .int .u8 x3], .agg #[.int .u8 x0, .int .u8 x1]] [] post ∧
  ∀ x hs, post x hs → ∃ A5 : (Nat → Int), x = .agg (segCells .u8 32 A5 ++ ([])).toArray ∧ hs = [] ∧
  ∃ post, Meets P 45 [(if ((List.range 32).all fun j => A3 j == A4 j) then .agg (segCells .u8 16 A0 ++ ([])).toArray else undef), (if ((List.range 32).all fun j => A3 j == A4 j) then .agg (segCells .u8 32 A2 ++ ([])).toArray else undef), (if ((List.range 32).all fun j => A3 j == A4 j) then .agg (segCells .u8 32 A1 ++ ([])).toArray else undef), (if ((List.range 32).all fun j => A3 j == A4 j) then .agg #[.int .u8 x2, .int .u8 x3] else undef), (if ((List.range 32).all fun j => A3 j == A4 j) then .agg #[.int .u8 x0, .int .u8 x1] else undef)] [] post ∧
  ∀ x hs, post x hs → ∃ A6 : (Nat → Int), x = .agg (segCells .u8 32 A6 ++ ([])).toArray ∧ hs = [] ∧
  Fork (∀ j, j < 32 → A5 j = A6 j) (
    ∃ post, Meets P 46 [] [] post ∧
    ∀ x hs, post x hs → x = .bool true ∧ hs = [] ∧
    Post (.bool true) [rowHP b0 true (segCells .u8 16 A0 ++ ([])), rowHP b1 true (segCells .u8 32 A1 ++ ([])), rowHP b2 true (segCells .u8 32 A2 ++ ([])), rowHP b3 true ([.int .u8 x0, .int .u8 x1]), rowHP b4 true ([.int .u8 x2, .int .u8 x3])]) (
    Post (.bool false) [rowHP b0 true (segCells .u8 16 A0 ++ ([])), rowHP b1 true (segCells .u8 32 A1 ++ ([])), rowHP b2 true (segCells .u8 32 A2 ++ ([])), rowHP b3 true ([.int .u8 x0, .int .u8 x1]), rowHP b4 true ([.int .u8 x2, .int .u8 x3])])) (
  Post (.bool false) [rowHP b0 true (segCells .u8 16 A0 ++ ([])), rowHP b1 true (segCells .u8 32 A1 ++ ([])), rowHP b2 true (segCells .u8 32 A2 ++ ([])), rowHP b3 true ([.int .u8 x0, .int .u8 x1]), rowHP b4 true ([.int .u8 x2, .int .u8 x3])])
theorem vc_law (P : Program) (Post : Value → List HP → Prop) (x0 : Int) (x1 : Int) (x2 : Int) (x3 : Int) (A0 : Nat → Int) (A1 : Nat → Int) (A2 : Nat → Int) (L : Nat → LC) : VC P Post fm_law { iv := [x0, x1, x2, x3], av := [A0, A1, A2], bo := [], bv := [], vv := [] } L = st_law P Post x0 x1 x2 x3 A0 A1 A2 := by kernel_rfl
theorem run_law : runF cx 9 ([Go.RX.SV.agg [Go.RX.SV.seg (Go.IntKind.u8) 16 (Go.RX.E.avar 0)], Go.RX.SV.agg [Go.RX.SV.seg (Go.IntKind.u8) 32 (Go.RX.E.avar 1)], Go.RX.SV.agg [Go.RX.SV.seg (Go.IntKind.u8) 32 (Go.RX.E.avar 2)], Go.RX.SV.agg [Go.RX.SV.int (Go.IntKind.u8) (Go.RX.E.var 0), Go.RX.SV.int (Go.IntKind.u8) (Go.RX.E.var 1)], Go.RX.SV.agg [Go.RX.SV.int (Go.IntKind.u8) (Go.RX.E.var 2), Go.RX.SV.int (Go.IntKind.u8) (Go.RX.E.var 3)]]) ([]) ({ b := 0, v := 0, i := 4, a := 3, bo := 0, p := 0, r := 0 }) Try.f9 = fm_law := rfl
end Go.RX.Md

namespace Go.RX.Sh
open Go.RX Go.Proofs
noncomputable def cx : Ctx := { T := TT, FT := FT, loops := loops, calls := calls }
end Go.RX.Sh

namespace Go.RX.Sh
open Go.RX Go.Proofs
set_option maxRecDepth 100000
noncomputable def fm_sum5 : F := runF cx 78 ([Go.RX.SV.sl 5 (Go.RX.E.lit 0) 1 (Go.RX.E.lit 5) (Go.RX.E.lit 5)]) ([Go.RX.Ck.row 0 false [Go.RX.SV.int (Go.IntKind.u8) (Go.RX.E.lit 104), Go.RX.SV.int (Go.IntKind.u8) (Go.RX.E.lit 97), Go.RX.SV.int (Go.IntKind.u8) (Go.RX.E.lit 105), Go.RX.SV.int (Go.IntKind.u8) (Go.RX.E.lit 108), Go.RX.SV.int (Go.IntKind.u8) (Go.RX.E.lit 101), Go.RX.SV.int (Go.IntKind.u8) (Go.RX.E.lit 114), Go.RX.SV.int (Go.IntKind.u8) (Go.RX.E.lit 32), Go.RX.SV.int (Go.IntKind.u8) (Go.RX.E.lit 109), Go.RX.SV.int (Go.IntKind.u8) (Go.RX.E.lit 101), Go.RX.SV.int (Go.IntKind.u8) (Go.RX.E.lit 100), Go.RX.SV.int (Go.IntKind.u8) (Go.RX.E.lit 105), Go.RX.SV.int (Go.IntKind.u8) (Go.RX.E.lit 97)], Go.RX.Ck.row 1 true [Go.RX.SV.seg (Go.IntKind.u8) 16 (Go.RX.E.avar 0)], Go.RX.Ck.row 2 true [Go.RX.SV.seg (Go.IntKind.u8) 32 (Go.RX.E.avar 1)], Go.RX.Ck.row 3 true [Go.RX.SV.seg (Go.IntKind.u8) 32 (Go.RX.E.avar 2)], Go.RX.Ck.row 4 true [Go.RX.SV.int (Go.IntKind.u8) (Go.RX.E.var 0), Go.RX.SV.int (Go.IntKind.u8) (Go.RX.E.var 1), Go.RX.SV.int (Go.IntKind.u8) (Go.RX.E.var 2), Go.RX.SV.int (Go.IntKind.u8) (Go.RX.E.var 3)], Go.RX.Ck.row 5 true [Go.RX.SV.sl 0 (Go.RX.E.lit 0) 1 (Go.RX.E.lit 12) (Go.RX.E.lit 12), Go.RX.SV.sl 1 (Go.RX.E.lit 0) 1 (Go.RX.E.lit 16) (Go.RX.E.lit 16), Go.RX.SV.sl 2 (Go.RX.E.lit 0) 1 (Go.RX.E.lit 32) (Go.RX.E.lit 32), Go.RX.SV.sl 3 (Go.RX.E.lit 0) 1 (Go.RX.E.lit 32) (Go.RX.E.lit 32), Go.RX.SV.sl 4 (Go.RX.E.lit 0) 1 (Go.RX.E.lit 4) (Go.RX.E.lit 4)]]) ({ b := 6, v := 0, i := 4, a := 3, bo := 0, p := 0, r := 0 }) Try.f78
def st_sum5 (P : Program) (Post : Value → List HP → Prop) (x0 : Int) (x1 : Int) (x2 : Int) (x3 : Int) (A0 : Nat → Int) (A1 : Nat → Int) (A2 : Nat → Int) (b0 : Nat) (b1 : Nat) (b2 : Nat) (b3 : Nat) (b4 : Nat) (b5 : Nat) : Prop :=
∀ b6 : Nat, ∃ post, Meets P 111 [] [] post ∧
∀ x hs, post x hs → ∃ b7 : Nat, ∃ v0 : V1, ∃ v1 : V1, ∃ A3 : (Nat → Int), ∃ A4 : (Nat → Int), x = .pointer (some ⟨b7, 0, none⟩) ∧ hs = [sliHP true 107 1 v0.v 8 (tabL 8 [colI .u32 1 A3]), sliHP true 107 1 v1.v 64 (tabL 64 [colI .u32 1 A4]), rowHP b7 true ([v0.v, v1.v, .int .i64 4, .int .i64 2, .int .i64 13, .int .i64 22, .int .i64 6, .int .i64 11, .int .i64 25, .int .i64 7, .int .i64 18, .int .i64 3, .int .i64 17, .int .i64 19, .int .i64 10])] ∧
∀ _ : V1, ∀ _ : V1, ∀ _ : V1, ∀ v5 : V1, ∃ post, Meets P 127 [.pointer (some ⟨b7, 0, none⟩), (subSlice 1 v5.v 0 64 none)] [rowHP b7 true ([v0.v, v1.v, .int .i64 4, .int .i64 2, .int .i64 13, .int .i64 22, .int .i64 6, .int .i64 11, .int .i64 25, .int .i64 7, .int .i64 18, .int .i64 3, .int .i64 17, .int .i64 19, .int .i64 10]), sliHP true 107 1 v0.v 8 (tabL 8 [colI .u32 1 A3]), sliHP true 107 1 v1.v 64 (tabL 64 [colI .u32 1 A4]), sliHP true 5 1 v5.v 92 (tabL 92 [colI .u8 1 (splF (splF (splF (updF (updF (updF (updF (updF (updF (updF (updF (updF (updF (updF (updF (fun _ => 0) 0 104) 1 97) 2 105) 3 108) 4 101) 5 114) 6 32) 7 109) 8 101) 9 100) 10 105) 11 97) 12 16 A0) 28 32 A1) 60 32 A2)])] post ∧
∀ x hs, post x hs → ∃ A5 : (Nat → Int), x = .tuple #[] ∧ hs = [rowHP b7 true ([v0.v, v1.v, .int .i64 4, .int .i64 2, .int .i64 13, .int .i64 22, .int .i64 6, .int .i64 11, .int .i64 25, .int .i64 7, .int .i64 18, .int .i64 3, .int .i64 17, .int .i64 19, .int .i64 10]), sliHP true 107 1 v0.v 8 (tabL 8 [colI .u32 1 A5]), sliHP true 107 1 v1.v 64 (tabL 64 [colI .u32 1 A4]), sliHP true 5 1 v5.v 92 (tabL 92 [colI .u8 1 (splF (splF (splF (updF (updF (updF (updF (updF (updF (updF (updF (updF (updF (updF (updF (fun _ => 0) 0 104) 1 97) 2 105) 3 108) 4 101) 5 114) 6 32) 7 109) 8 101) 9 100) 10 105) 11 97) 12 16 A0) 28 32 A1) 60 32 A2)])] ∧
∀ _ : V1, ∀ b8 : Nat, ∀ _ : V1, ∀ b9 : Nat, ∀ _ : V1, ∀ b10 : Nat, ∀ _ : V1, ∀ b11 : Nat, ∀ _ : V1, ∀ b12 : Nat, ∀ _ : V1, ∀ b13 : Nat, ∀ _ : V1, ∀ b14 : Nat, ∀ _ : V1, ∀ b15 : Nat, ∀ _ : V1, ∀ b16 : Nat, ∀ _ : V1, ∀ b17 : Nat, ∀ _ : V1, ∀ b18 : Nat, ∀ _ : V1, ∀ b19 : Nat, ∀ _ : V1, ∀ b20 : Nat, ∀ _ : V1, ∀ b21 : Nat, ∀ _ : V1, ∀ b22 : Nat, ∀ _ : V1, ∀ b23 : Nat, ∀ _ : V1, ∀ b24 : Nat, ∀ _ : V1, ∀ b25 : Nat, ∀ _ : V1, ∀ b26 : Nat, ∀ _ : V1, ∀ b27 : Nat, ∀ _ : V1, ∀ b28 : Nat, ∀ _ : V1, ∀ b29 : Nat, ∀ _ : V1, ∀ b30 : Nat, ∀ _ : V1, ∀ b31 : Nat, ∀ _ : V1, ∀ v31 : V1, ∀ v32 : V1, ∃ post, Meets P 127 [.pointer (some ⟨b7, 0, none⟩), (subSlice 1 v32.v 0 64 none)] [rowHP b7 true ([v0.v, v1.v, .int .i64 4, .int .i64 2, .int .i64 13, .int .i64 22, .int .i64 6, .int .i64 11, .int .i64 25, .int .i64 7, .int .i64 18, .int .i64 3, .int .i64 17, .int .i64 19, .int .i64 10]), sliHP true 107 1 v0.v 8 (tabL 8 [colI .u32 1 A5]), sliHP true 107 1 v1.v 64 (tabL 64 [colI .u32 1 A4]), sliHP true 5 1 v32.v 64 (tabL 64 [colI .u8 1 (splF (updF (updF (updF (updF (updF (updF (updF (updF (updF (updF (updF (updF (updF (updF (updF (updF (updF (updF (updF (updF (updF (updF (updF (splF (splF (shiftF (splF (splF (splF (updF (updF (updF (updF (updF (updF (updF (updF (updF (updF (updF (updF (fun _ => 0) 0 104) 1 97) 2 105) 3 108) 4 101) 5 114) 6 32) 7 109) 8 101) 9 100) 10 105) 11 97) 12 16 A0) 28 32 A1) 60 32 A2) 64) 28 4 (updF (updF (updF (updF (fun _ => 0) 0 x0) 1 x1) 2 x2) 3 x3)) 32 1 (updF (fun _ => 0) 0 128)) 33 0) 34 0) 35 0) 36 0) 37 0) 38 0) 39 0) 40 0) 41 0) 42 0) 43 0) 44 0) 45 0) 46 0) 47 0) 48 0) 49 0) 50 0) 51 0) 52 0) 53 0) 54 0) 55 0) 56 8 (updF (updF (updF (updF (updF (updF (updF (updF (fun _ => 0) 7 0) 6 3) 5 0) 4 0) 3 0) 2 0) 1 0) 0 0))])] post ∧
∀ x hs, post x hs → ∃ A6 : (Nat → Int), x = .tuple #[] ∧ hs = [rowHP b7 true ([v0.v, v1.v, .int .i64 4, .int .i64 2, .int .i64 13, .int .i64 22, .int .i64 6, .int .i64 11, .int .i64 25, .int .i64 7, .int .i64 18, .int .i64 3, .int .i64 17, .int .i64 19, .int .i64 10]), sliHP true 107 1 v0.v 8 (tabL 8 [colI .u32 1 A6]), sliHP true 107 1 v1.v 64 (tabL 64 [colI .u32 1 A4]), sliHP true 5 1 v32.v 64 (tabL 64 [colI .u8 1 (splF (updF (updF (updF (updF (updF (updF (updF (updF (updF (updF (updF (updF (updF (updF (updF (updF (updF (updF (updF (updF (updF (updF (updF (splF (splF (shiftF (splF (splF (splF (updF (updF (updF (updF (updF (updF (updF (updF (updF (updF (updF (updF (fun _ => 0) 0 104) 1 97) 2 105) 3 108) 4 101) 5 114) 6 32) 7 109) 8 101) 9 100) 10 105) 11 97) 12 16 A0) 28 32 A1) 60 32 A2) 64) 28 4 (updF (updF (updF (updF (fun _ => 0) 0 x0) 1 x1) 2 x2) 3 x3)) 32 1 (updF (fun _ => 0) 0 128)) 33 0) 34 0) 35 0) 36 0) 37 0) 38 0) 39 0) 40 0) 41 0) 42 0) 43 0) 44 0) 45 0) 46 0) 47 0) 48 0) 49 0) 50 0) 51 0) 52 0) 53 0) 54 0) 55 0) 56 8 (updF (updF (updF (updF (updF (updF (updF (updF (fun _ => 0) 7 0) 6 3) 5 0) 4 0) 3 0) 2 0) 1 0) 0 0))])] ∧
∀ b32 : Nat, ∀ _ : V1, ∀ b33 : Nat, ∀ _ : V1, ∀ b34 : Nat, ∀ _ : V1, ∀ b35 : Nat, ∀ _ : V1, ∀ b36 : Nat, ∀ _ : V1, ∀ b37 : Nat, ∀ _ : V1, ∀ b38 : Nat, ∀ _ : V1, ∀ b39 : Nat, ∀ _ : V1, ∀ b40 : Nat, ∀ _ : V1, ∀ b41 : Nat, ∀ _ : V1, ∀ b42 : Nat, ∀ _ : V1, ∀ b43 : Nat, ∀ _ : V1, ∀ b44 : Nat, ∀ _ : V1, ∀ b45 : Nat, ∀ _ : V1, ∀ b46 : Nat, ∀ _ : V1, ∀ b47 : Nat, ∀ _ : V1, ∀ b48 : Nat, ∀ _ : V1, ∀ b49 : Nat, ∀ _ : V1, ∀ b50 : Nat, ∀ _ : V1, ∀ b51 : Nat, ∀ _ : V1, ∀ b52 : Nat, ∀ _ : V1, ∀ b53 : Nat, ∀ _ : V1, ∀ b54 : Nat, ∀ _ : V1, ∀ b55 : Nat, ∀ _ : V1, ∀ b56 : Nat, ∀ _ : V1, ∀ b57 : Nat, ∀ _ : V1, ∀ b58 : Nat, ∀ _ : V1, ∀ b59 : Nat, ∀ _ : V1, ∀ b60 : Nat, ∀ _ : V1, ∀ b61 : Nat, ∀ _ : V1, ∀ b62 : Nat, ∀ _ : V1, ∀ b63 : Nat, ∀ v64 : V1, Post (.agg (segCells .u8 32 (updF (updF (updF (updF (updF (updF (updF (updF (updF (updF (updF (updF (updF (updF (updF (updF (updF (updF (updF (updF (updF (updF (updF (updF (updF (updF (updF (updF (updF (updF (updF (updF (fun _ => 0) 0 (IntKind.wrap .u8 (iop .shr .u32 (A6 0) 24))) 1 (IntKind.wrap .u8 (iop .shr .u32 (A6 0) 16))) 2 (IntKind.wrap .u8 (iop .shr .u32 (A6 0) 8))) 3 (IntKind.wrap .u8 (iop .shr .u32 (A6 0) 0))) 4 (IntKind.wrap .u8 (iop .shr .u32 (A6 1) 24))) 5 (IntKind.wrap .u8 (iop .shr .u32 (A6 1) 16))) 6 (IntKind.wrap .u8 (iop .shr .u32 (A6 1) 8))) 7 (IntKind.wrap .u8 (iop .shr .u32 (A6 1) 0))) 8 (IntKind.wrap .u8 (iop .shr .u32 (A6 2) 24))) 9 (IntKind.wrap .u8 (iop .shr .u32 (A6 2) 16))) 10 (IntKind.wrap .u8 (iop .shr .u32 (A6 2) 8))) 11 (IntKind.wrap .u8 (iop .shr .u32 (A6 2) 0))) 12 (IntKind.wrap .u8 (iop .shr .u32 (A6 3) 24))) 13 (IntKind.wrap .u8 (iop .shr .u32 (A6 3) 16))) 14 (IntKind.wrap .u8 (iop .shr .u32 (A6 3) 8))) 15 (IntKind.wrap .u8 (iop .shr .u32 (A6 3) 0))) 16 (IntKind.wrap .u8 (iop .shr .u32 (A6 4) 24))) 17 (IntKind.wrap .u8 (iop .shr .u32 (A6 4) 16))) 18 (IntKind.wrap .u8 (iop .shr .u32 (A6 4) 8))) 19 (IntKind.wrap .u8 (iop .shr .u32 (A6 4) 0))) 20 (IntKind.wrap .u8 (iop .shr .u32 (A6 5) 24))) 21 (IntKind.wrap .u8 (iop .shr .u32 (A6 5) 16))) 22 (IntKind.wrap .u8 (iop .shr .u32 (A6 5) 8))) 23 (IntKind.wrap .u8 (iop .shr .u32 (A6 5) 0))) 24 (IntKind.wrap .u8 (iop .shr .u32 (A6 6) 24))) 25 (IntKind.wrap .u8 (iop .shr .u32 (A6 6) 16))) 26 (IntKind.wrap .u8 (iop .shr .u32 (A6 6) 8))) 27 (IntKind.wrap .u8 (iop .shr .u32 (A6 6) 0))) 28 (IntKind.wrap .u8 (iop .shr .u32 (A6 7) 24))) 29 (IntKind.wrap .u8 (iop .shr .u32 (A6 7) 16))) 30 (IntKind.wrap .u8 (iop .shr .u32 (A6 7) 8))) 31 (IntKind.wrap .u8 (iop .shr .u32 (A6 7) 0))) ++ ([])).toArray) [rowHP b0 false ([.int .u8 104, .int .u8 97, .int .u8 105, .int .u8 108, .int .u8 101, .int .u8 114, .int .u8 32, .int .u8 109, .int .u8 101, .int .u8 100, .int .u8 105, .int .u8 97]), rowHP b1 true (segCells .u8 16 A0 ++ ([])), rowHP b2 true (segCells .u8 32 A1 ++ ([])), rowHP b3 true (segCells .u8 32 A2 ++ ([])), rowHP b4 true ([.int .u8 x0, .int .u8 x1, .int .u8 x2, .int .u8 x3]), rowHP b5 true ([.slice (some ⟨b0, 0, none⟩) 12 12, .slice (some ⟨b1, 0, none⟩) 16 16, .slice (some ⟨b2, 0, none⟩) 32 32, .slice (some ⟨b3, 0, none⟩) 32 32, .slice (some ⟨b4, 0, none⟩) 4 4]), rowHP b6 true (segCells .u8 32 (updF (updF (updF (updF (updF (updF (updF (updF (updF (updF (updF (updF (updF (updF (updF (updF (updF (updF (updF (updF (updF (updF (updF (updF (updF (updF (updF (updF (updF (updF (updF (updF (fun _ => 0) 0 (IntKind.wrap .u8 (iop .shr .u32 (A6 0) 24))) 1 (IntKind.wrap .u8 (iop .shr .u32 (A6 0) 16))) 2 (IntKind.wrap .u8 (iop .shr .u32 (A6 0) 8))) 3 (IntKind.wrap .u8 (iop .shr .u32 (A6 0) 0))) 4 (IntKind.wrap .u8 (iop .shr .u32 (A6 1) 24))) 5 (IntKind.wrap .u8 (iop .shr .u32 (A6 1) 16))) 6 (IntKind.wrap .u8 (iop .shr .u32 (A6 1) 8))) 7 (IntKind.wrap .u8 (iop .shr .u32 (A6 1) 0))) 8 (IntKind.wrap .u8 (iop .shr .u32 (A6 2) 24))) 9 (IntKind.wrap .u8 (iop .shr .u32 (A6 2) 16))) 10 (IntKind.wrap .u8 (iop .shr .u32 (A6 2) 8))) 11 (IntKind.wrap .u8 (iop .shr .u32 (A6 2) 0))) 12 (IntKind.wrap .u8 (iop .shr .u32 (A6 3) 24))) 13 (IntKind.wrap .u8 (iop .shr .u32 (A6 3) 16))) 14 (IntKind.wrap .u8 (iop .shr .u32 (A6 3) 8))) 15 (IntKind.wrap .u8 (iop .shr .u32 (A6 3) 0))) 16 (IntKind.wrap .u8 (iop .shr .u32 (A6 4) 24))) 17 (IntKind.wrap .u8 (iop .shr .u32 (A6 4) 16))) 18 (IntKind.wrap .u8 (iop .shr .u32 (A6 4) 8))) 19 (IntKind.wrap .u8 (iop .shr .u32 (A6 4) 0))) 20 (IntKind.wrap .u8 (iop .shr .u32 (A6 5) 24))) 21 (IntKind.wrap .u8 (iop .shr .u32 (A6 5) 16))) 22 (IntKind.wrap .u8 (iop .shr .u32 (A6 5) 8))) 23 (IntKind.wrap .u8 (iop .shr .u32 (A6 5) 0))) 24 (IntKind.wrap .u8 (iop .shr .u32 (A6 6) 24))) 25 (IntKind.wrap .u8 (iop .shr .u32 (A6 6) 16))) 26 (IntKind.wrap .u8 (iop .shr .u32 (A6 6) 8))) 27 (IntKind.wrap .u8 (iop .shr .u32 (A6 6) 0))) 28 (IntKind.wrap .u8 (iop .shr .u32 (A6 7) 24))) 29 (IntKind.wrap .u8 (iop .shr .u32 (A6 7) 16))) 30 (IntKind.wrap .u8 (iop .shr .u32 (A6 7) 8))) 31 (IntKind.wrap .u8 (iop .shr .u32 (A6 7) 0))) ++ ([])), sliHP true 107 1 v0.v 8 (tabL 8 [colI .u32 1 A6]), sliHP true 107 1 v1.v 64 (tabL 64 [colI .u32 1 A4]), rowHP b7 true ([v0.v, v1.v, .int .i64 4, .int .i64 2, .int .i64 13, .int .i64 22, .int .i64 6, .int .i64 11, .int .i64 25, .int .i64 7, .int .i64 18, .int .i64 3, .int .i64 17, .int .i64 19, .int .i64 10]), sliHP true 5 1 v32.v 64 (tabL 64 [colI .u8 1 (splF (updF (updF (updF (updF (updF (updF (updF (updF (updF (updF (updF (updF (updF (updF (updF (updF (updF (updF (updF (updF (updF (updF (updF (splF (splF (shiftF (splF (splF (splF (updF (updF (updF (updF (updF (updF (updF (updF (updF (updF (updF (updF (fun _ => 0) 0 104) 1 97) 2 105) 3 108) 4 101) 5 114) 6 32) 7 109) 8 101) 9 100) 10 105) 11 97) 12 16 A0) 28 32 A1) 60 32 A2) 64) 28 4 (updF (updF (updF (updF (fun _ => 0) 0 x0) 1 x1) 2 x2) 3 x3)) 32 1 (updF (fun _ => 0) 0 128)) 33 0) 34 0) 35 0) 36 0) 37 0) 38 0) 39 0) 40 0) 41 0) 42 0) 43 0) 44 0) 45 0) 46 0) 47 0) 48 0) 49 0) 50 0) 51 0) 52 0) 53 0) 54 0) 55 0) 56 8 (updF (updF (updF (updF (updF (updF (updF (updF (fun _ => 0) 7 0) 6 3) 5 0) 4 0) 3 0) 2 0) 1 0) 0 0))]), rowHP b8 true ([.int .u8 128]), rowHP b9 true ([.int .u8 0]), rowHP b10 true ([.int .u8 0]), rowHP b11 true ([.int .u8 0]), rowHP b12 true ([.int .u8 0]), rowHP b13 true ([.int .u8 0]), rowHP b14 true ([.int .u8 0]), rowHP b15 true ([.int .u8 0]), rowHP b16 true ([.int .u8 0]), rowHP b17 true ([.int .u8 0]), rowHP b18 true ([.int .u8 0]), rowHP b19 true ([.int .u8 0]), rowHP b20 true ([.int .u8 0]), rowHP b21 true ([.int .u8 0]), rowHP b22 true ([.int .u8 0]), rowHP b23 true ([.int .u8 0]), rowHP b24 true ([.int .u8 0]), rowHP b25 true ([.int .u8 0]), rowHP b26 true ([.int .u8 0]), rowHP b27 true ([.int .u8 0]), rowHP b28 true ([.int .u8 0]), rowHP b29 true ([.int .u8 0]), rowHP b30 true ([.int .u8 0]), rowHP b31 true ([.int .u8 0]), sliHP true 5 1 v31.v 8 (tabL 8 [colI .u8 1 (updF (updF (updF (updF (updF (updF (updF (updF (fun _ => 0) 7 0) 6 3) 5 0) 4 0) 3 0) 2 0) 1 0) 0 0)]), rowHP b32 true ([.int .u8 (IntKind.wrap .u8 (iop .shr .u32 (A6 0) 24))]), sliHP true 5 1 v64.v 32 (tabL 32 [colI .u8 1 (updF (updF (updF (updF (updF (updF (updF (updF (updF (updF (updF (updF (updF (updF (updF (updF (updF (updF (updF (updF (updF (updF (updF (updF (updF (updF (updF (updF (updF (updF (updF (updF (fun _ => 0) 0 (IntKind.wrap .u8 (iop .shr .u32 (A6 0) 24))) 1 (IntKind.wrap .u8 (iop .shr .u32 (A6 0) 16))) 2 (IntKind.wrap .u8 (iop .shr .u32 (A6 0) 8))) 3 (IntKind.wrap .u8 (iop .shr .u32 (A6 0) 0))) 4 (IntKind.wrap .u8 (iop .shr .u32 (A6 1) 24))) 5 (IntKind.wrap .u8 (iop .shr .u32 (A6 1) 16))) 6 (IntKind.wrap .u8 (iop .shr .u32 (A6 1) 8))) 7 (IntKind.wrap .u8 (iop .shr .u32 (A6 1) 0))) 8 (IntKind.wrap .u8 (iop .shr .u32 (A6 2) 24))) 9 (IntKind.wrap .u8 (iop .shr .u32 (A6 2) 16))) 10 (IntKind.wrap .u8 (iop .shr .u32 (A6 2) 8))) 11 (IntKind.wrap .u8 (iop .shr .u32 (A6 2) 0))) 12 (IntKind.wrap .u8 (iop .shr .u32 (A6 3) 24))) 13 (IntKind.wrap .u8 (iop .shr .u32 (A6 3) 16))) 14 (IntKind.wrap .u8 (iop .shr .u32 (A6 3) 8))) 15 (IntKind.wrap .u8 (iop .shr .u32 (A6 3) 0))) 16 (IntKind.wrap .u8 (iop .shr .u32 (A6 4) 24))) 17 (IntKind.wrap .u8 (iop .shr .u32 (A6 4) 16))) 18 (IntKind.wrap .u8 (iop .shr .u32 (A6 4) 8))) 19 (IntKind.wrap .u8 (iop .shr .u32 (A6 4) 0))) 20 (IntKind.wrap .u8 (iop .shr .u32 (A6 5) 24))) 21 (IntKind.wrap .u8 (iop .shr .u32 (A6 5) 16))) 22 (IntKind.wrap .u8 (iop .shr .u32 (A6 5) 8))) 23 (IntKind.wrap .u8 (iop .shr .u32 (A6 5) 0))) 24 (IntKind.wrap .u8 (iop .shr .u32 (A6 6) 24))) 25 (IntKind.wrap .u8 (iop .shr .u32 (A6 6) 16))) 26 (IntKind.wrap .u8 (iop .shr .u32 (A6 6) 8))) 27 (IntKind.wrap .u8 (iop .shr .u32 (A6 6) 0))) 28 (IntKind.wrap .u8 (iop .shr .u32 (A6 7) 24))) 29 (IntKind.wrap .u8 (iop .shr .u32 (A6 7) 16))) 30 (IntKind.wrap .u8 (iop .shr .u32 (A6 7) 8))) 31 (IntKind.wrap .u8 (iop .shr .u32 (A6 7) 0)))]), rowHP b33 true ([.int .u8 (IntKind.wrap .u8 (iop .shr .u32 (A6 0) 16))]), rowHP b34 true ([.int .u8 (IntKind.wrap .u8 (iop .shr .u32 (A6 0) 8))]), rowHP b35 true ([.int .u8 (IntKind.wrap .u8 (iop .shr .u32 (A6 0) 0))]), rowHP b36 true ([.int .u8 (IntKind.wrap .u8 (iop .shr .u32 (A6 1) 24))]), rowHP b37 true ([.int .u8 (IntKind.wrap .u8 (iop .shr .u32 (A6 1) 16))]), rowHP b38 true ([.int .u8 (IntKind.wrap .u8 (iop .shr .u32 (A6 1) 8))]), rowHP b39 true ([.int .u8 (IntKind.wrap .u8 (iop .shr .u32 (A6 1) 0))]), rowHP b40 true ([.int .u8 (IntKind.wrap .u8 (iop .shr .u32 (A6 2) 24))]), rowHP b41 true ([.int .u8 (IntKind.wrap .u8 (iop .shr .u32 (A6 2) 16))]), rowHP b42 true ([.int .u8 (IntKind.wrap .u8 (iop .shr .u32 (A6 2) 8))]), rowHP b43 true ([.int .u8 (IntKind.wrap .u8 (iop .shr .u32 (A6 2) 0))]), rowHP b44 true ([.int .u8 (IntKind.wrap .u8 (iop .shr .u32 (A6 3) 24))]), rowHP b45 true ([.int .u8 (IntKind.wrap .u8 (iop .shr .u32 (A6 3) 16))]), rowHP b46 true ([.int .u8 (IntKind.wrap .u8 (iop .shr .u32 (A6 3) 8))]), rowHP b47 true ([.int .u8 (IntKind.wrap .u8 (iop .shr .u32 (A6 3) 0))]), rowHP b48 true ([.int .u8 (IntKind.wrap .u8 (iop .shr .u32 (A6 4) 24))]), rowHP b49 true ([.int .u8 (IntKind.wrap .u8 (iop .shr .u32 (A6 4) 16))]), rowHP b50 true ([.int .u8 (IntKind.wrap .u8 (iop .shr .u32 (A6 4) 8))]), rowHP b51 true ([.int .u8 (IntKind.wrap .u8 (iop .shr .u32 (A6 4) 0))]), rowHP b52 true ([.int .u8 (IntKind.wrap .u8 (iop .shr .u32 (A6 5) 24))]), rowHP b53 true ([.int .u8 (IntKind.wrap .u8 (iop .shr .u32 (A6 5) 16))]), rowHP b54 true ([.int .u8 (IntKind.wrap .u8 (iop .shr .u32 (A6 5) 8))]), rowHP b55 true ([.int .u8 (IntKind.wrap .u8 (iop .shr .u32 (A6 5) 0))]), rowHP b56 true ([.int .u8 (IntKind.wrap .u8 (iop .shr .u32 (A6 6) 24))]), rowHP b57 true ([.int .u8 (IntKind.wrap .u8 (iop .shr .u32 (A6 6) 16))]), rowHP b58 true ([.int .u8 (IntKind.wrap .u8 (iop .shr .u32 (A6 6) 8))]), rowHP b59 true ([.int .u8 (IntKind.wrap .u8 (iop .shr .u32 (A6 6) 0))]), rowHP b60 true ([.int .u8 (IntKind.wrap .u8 (iop .shr .u32 (A6 7) 24))]), rowHP b61 true ([.int .u8 (IntKind.wrap .u8 (iop .shr .u32 (A6 7) 16))]), rowHP b62 true ([.int .u8 (IntKind.wrap .u8 (iop .shr .u32 (A6 7) 8))]), rowHP b63 true ([.int .u8 (IntKind.wrap .u8 (iop .shr .u32 (A6 7) 0))])]
theorem vc_sum5 (P : Program) (Post : Value → List HP → Prop) (x0 : Int) (x1 : Int) (x2 : Int) (x3 : Int) (A0 : Nat → Int) (A1 : Nat → Int) (A2 : Nat → Int) (b0 : Nat) (b1 : Nat) (b2 : Nat) (b3 : Nat) (b4 : Nat) (b5 : Nat) (L : Nat → LC) : VC P Post fm_sum5 { iv := [x0, x1, x2, x3], av := [A0, A1, A2], bo := [], bv := [b0, b1, b2, b3, b4, b5], vv := [] } L = st_sum5 P Post x0 x1 x2 x3 A0 A1 A2 b0 b1 b2 b3 b4 b5 := by kernel_rfl
theorem run_sum5 : runF cx 78 ([Go.RX.SV.sl 5 (Go.RX.E.lit 0) 1 (Go.RX.E.lit 5) (Go.RX.E.lit 5)]) ([Go.RX.Ck.row 0 false [Go.RX.SV.int (Go.IntKind.u8) (Go.RX.E.lit 104), Go.RX.SV.int (Go.IntKind.u8) (Go.RX.E.lit 97), Go.RX.SV.int (Go.IntKind.u8) (Go.RX.E.lit 105), Go.RX.SV.int (Go.IntKind.u8) (Go.RX.E.lit 108), Go.RX.SV.int (Go.IntKind.u8) (Go.RX.E.lit 101), Go.RX.SV.int (Go.IntKind.u8) (Go.RX.E.lit 114), Go.RX.SV.int (Go.IntKind.u8) (Go.RX.E.lit 32), Go.RX.SV.int (Go.IntKind.u8) (Go.RX.E.lit 109), Go.RX.SV.int (Go.IntKind.u8) (Go.RX.E.lit 101), Go.RX.SV.int (Go.IntKind.u8) (Go.RX.E.lit 100), Go.RX.SV.int (Go.IntKind.u8) (Go.RX.E.lit 105), Go.RX.SV.int (Go.IntKind.u8) (Go.RX.E.lit 97)], Go.RX.Ck.row 1 true [Go.RX.SV.seg (Go.IntKind.u8) 16 (Go.RX.E.avar 0)], Go.RX.Ck.row 2 true [Go.RX.SV.seg (Go.IntKind.u8) 32 (Go.RX.E.avar 1)], Go.RX.Ck.row 3 true [Go.RX.SV.seg (Go.IntKind.u8) 32 (Go.RX.E.avar 2)], Go.RX.Ck.row 4 true [Go.RX.SV.int (Go.IntKind.u8) (Go.RX.E.var 0), Go.RX.SV.int (Go.IntKind.u8) (Go.RX.E.var 1), Go.RX.SV.int (Go.IntKind.u8) (Go.RX.E.var 2), Go.RX.SV.int (Go.IntKind.u8) (Go.RX.E.var 3)], Go.RX.Ck.row 5 true [Go.RX.SV.sl 0 (Go.RX.E.lit 0) 1 (Go.RX.E.lit 12) (Go.RX.E.lit 12), Go.RX.SV.sl 1 (Go.RX.E.lit 0) 1 (Go.RX.E.lit 16) (Go.RX.E.lit 16), Go.RX.SV.sl 2 (Go.RX.E.lit 0) 1 (Go.RX.E.lit 32) (Go.RX.E.lit 32), Go.RX.SV.sl 3 (Go.RX.E.lit 0) 1 (Go.RX.E.lit 32) (Go.RX.E.lit 32), Go.RX.SV.sl 4 (Go.RX.E.lit 0) 1 (Go.RX.E.lit 4) (Go.RX.E.lit 4)]]) ({ b := 6, v := 0, i := 4, a := 3, bo := 0, p := 0, r := 0 }) Try.f78 = fm_sum5 := rfl
noncomputable def fm_media : F := runF cx 44 ([Go.RX.SV.agg [Go.RX.SV.seg (Go.IntKind.u8) 16 (Go.RX.E.avar 0)], Go.RX.SV.agg [Go.RX.SV.seg (Go.IntKind.u8) 32 (Go.RX.E.avar 1)], Go.RX.SV.agg [Go.RX.SV.seg (Go.IntKind.u8) 32 (Go.RX.E.avar 2)], Go.RX.SV.agg [Go.RX.SV.int (Go.IntKind.u8) (Go.RX.E.var 0), Go.RX.SV.int (Go.IntKind.u8) (Go.RX.E.var 1)], Go.RX.SV.agg [Go.RX.SV.int (Go.IntKind.u8) (Go.RX.E.var 2), Go.RX.SV.int (Go.IntKind.u8) (Go.RX.E.var 3)]]) ([]) ({ b := 0, v := 0, i := 4, a := 3, bo := 0, p := 0, r := 0 }) Try.f44
def st_media (P : Program) (Post : Value → List HP → Prop) (x0 : Int) (x1 : Int) (x2 : Int) (x3 : Int) (A0 : Nat → Int) (A1 : Nat → Int) (A2 : Nat → Int) : Prop :=
∀ b0 : Nat, ∀ b1 : Nat, ∀ b2 : Nat, ∀ b3 : Nat, ∀ b4 : Nat, ∀ b5 : Nat, (∀ b6 : Nat, (∀ b7 : Nat, ∀ b8 : Nat, ∃ post, Meets P 78 [.slice (some ⟨b8, 0, none⟩) 5 5] [rowHP b6 false ([.int .u8 104, .int .u8 97, .int .u8 105, .int .u8 108, .int .u8 101, .int .u8 114, .int .u8 32, .int .u8 109, .int .u8 101, .int .u8 100, .int .u8 105, .int .u8 97]), rowHP b0 true (segCells .u8 16 A0 ++ ([])), rowHP b1 true (segCells .u8 32 A1 ++ ([])), rowHP b2 true (segCells .u8 32 A2 ++ ([])), rowHP b7 true ([.int .u8 x0, .int .u8 x1, .int .u8 x2, .int .u8 x3]), rowHP b8 true ([.slice (some ⟨b6, 0, none⟩) 12 12, .slice (some ⟨b0, 0, none⟩) 16 16, .slice (some ⟨b1, 0, none⟩) 32 32, .slice (some ⟨b2, 0, none⟩) 32 32, .slice (some ⟨b7, 0, none⟩) 4 4])] post ∧
    ∀ x hs, post x hs → ∃ A3 : (Nat → Int), x = .agg (segCells .u8 32 A3 ++ ([])).toArray ∧ hs = [rowHP b6 false ([.int .u8 104, .int .u8 97, .int .u8 105, .int .u8 108, .int .u8 101, .int .u8 114, .int .u8 32, .int .u8 109, .int .u8 101, .int .u8 100, .int .u8 105, .int .u8 97]), rowHP b0 true (segCells .u8 16 A0 ++ ([])), rowHP b1 true (segCells .u8 32 A1 ++ ([])), rowHP b2 true (segCells .u8 32 A2 ++ ([])), rowHP b7 true ([.int .u8 x0, .int .u8 x1, .int .u8 x2, .int .u8 x3]), rowHP b8 true ([.slice (some ⟨b6, 0, none⟩) 12 12, .slice (some ⟨b0, 0, none⟩) 16 16, .slice (some ⟨b1, 0, none⟩) 32 32, .slice (some ⟨b2, 0, none⟩) 32 32, .slice (some ⟨b7, 0, none⟩) 4 4])] ∧
    Post (.agg (segCells .u8 32 A3 ++ ([])).toArray) [rowHP b0 true (segCells .u8 16 A0 ++ ([])), rowHP b1 true (segCells .u8 32 A1 ++ ([])), rowHP b2 true (segCells .u8 32 A2 ++ ([])), rowHP b3 true ([.int .u8 x0, .int .u8 x1]), rowHP b4 true ([.int .u8 x2, .int .u8 x3]), rowHP b5 true (segCells .u8 32 A3 ++ ([])), rowHP b6 false ([.int .u8 104, .int .u8 97, .int .u8 105, .int .u8 108, .int .u8 101, .int .u8 114, .int .u8 32, .int .u8 109, .int .u8 101, .int .u8 100, .int .u8 105, .int .u8 97]), rowHP b7 true ([.int .u8 x0, .int .u8 x1, .int .u8 x2, .int .u8 x3]), rowHP b8 true ([.slice (some ⟨b6, 0, none⟩) 12 12, .slice (some ⟨b0, 0, none⟩) 16 16, .slice (some ⟨b1, 0, none⟩) 32 32, .slice (some ⟨b2, 0, none⟩) 32 32, .slice (some ⟨b7, 0, none⟩) 4 4])]) ∧
  (∀ b7 : Nat, ∀ b8 : Nat, ∃ post, Meets P 78 [.slice (some ⟨b8, 0, none⟩) 5 5] [rowHP b6 false ([.int .u8 104, .int .u8 97, .int .u8 105, .int .u8 108, .int .u8 101, .int .u8 114, .int .u8 32, .int .u8 109, .int .u8 101, .int .u8 100, .int .u8 105, .int .u8 97]), rowHP b0 true (segCells .u8 16 A0 ++ ([])), rowHP b1 true (segCells .u8 32 A1 ++ ([])), rowHP b2 true (segCells .u8 32 A2 ++ ([])), rowHP b7 true ([.int .u8 x0, .int .u8 x1, .int .u8 x2, .int .u8 x3]), rowHP b8 true ([.slice (some ⟨b6, 0, none⟩) 12 12, .slice (some ⟨b0, 0, none⟩) 16 16, .slice (some ⟨b1, 0, none⟩) 32 32, .slice (some ⟨b2, 0, none⟩) 32 32, .slice (some ⟨b7, 0, none⟩) 4 4])] post ∧
    ∀ x hs, post x hs → ∃ A3 : (Nat → Int), x = .agg (segCells .u8 32 A3 ++ ([])).toArray ∧ hs = [rowHP b6 false ([.int .u8 104, .int .u8 97, .int .u8 105, .int .u8 108, .int .u8 101, .int .u8 114, .int .u8 32, .int .u8 109, .int .u8 101, .int .u8 100, .int .u8 105, .int .u8 97]), rowHP b0 true (segCells .u8 16 A0 ++ ([])), rowHP b1 true (segCells .u8 32 A1 ++ ([])), rowHP b2 true (segCells .u8 32 A2 ++ ([])), rowHP b7 true ([.int .u8 x0, .int .u8 x1, .int .u8 x2, .int .u8 x3]), rowHP b8 true ([.slice (some ⟨b6, 0, none⟩) 12 12, .slice (some ⟨b0, 0, none⟩) 16 16, .slice (some ⟨b1, 0, none⟩) 32 32, .slice (some ⟨b2, 0, none⟩) 32 32, .slice (some ⟨b7, 0, none⟩) 4 4])] ∧
    Post (.agg (segCells .u8 32 A3 ++ ([])).toArray) [rowHP b0 true (segCells .u8 16 A0 ++ ([])), rowHP b1 true (segCells .u8 32 A1 ++ ([])), rowHP b2 true (segCells .u8 32 A2 ++ ([])), rowHP b3 true ([.int .u8 x0, .int .u8 x1]), rowHP b4 true ([.int .u8 x2, .int .u8 x3]), rowHP b5 true (segCells .u8 32 A3 ++ ([])), rowHP b6 false ([.int .u8 104, .int .u8 97, .int .u8 105, .int .u8 108, .int .u8 101, .int .u8 114, .int .u8 32, .int .u8 109, .int .u8 101, .int .u8 100, .int .u8 105, .int .u8 97]), rowHP b7 true ([.int .u8 x0, .int .u8 x1, .int .u8 x2, .int .u8 x3]), rowHP b8 true ([.slice (some ⟨b6, 0, none⟩) 12 12, .slice (some ⟨b0, 0, none⟩) 16 16, .slice (some ⟨b1, 0, none⟩) 32 32, .slice (some ⟨b2, 0, none⟩) 32 32, .slice (some ⟨b7, 0, none⟩) 4 4])])) ∧
(∀ b6 : Nat, ∀ b7 : Nat, ∀ b8 : Nat, ∃ post, Meets P 78 [.slice (some ⟨b8, 0, none⟩) 5 5] [rowHP b7 false ([.int .u8 104, .int .u8 97, .int .u8 105, .int .u8 108, .int .u8 101, .int .u8 114, .int .u8 32, .int .u8 109, .int .u8 101, .int .u8 100, .int .u8 105, .int .u8 97]), rowHP b0 true (segCells .u8 16 A0 ++ ([])), rowHP b1 true (segCells .u8 32 A1 ++ ([])), rowHP b2 true (segCells .u8 32 A2 ++ ([])), rowHP b6 true ([.int .u8 x0, .int .u8 x1, .int .u8 x2, .int .u8 x3]), rowHP b8 true ([.slice (some ⟨b7, 0, none⟩) 12 12, .slice (some ⟨b0, 0, none⟩) 16 16, .slice (some ⟨b1, 0, none⟩) 32 32, .slice (some ⟨b2, 0, none⟩) 32 32, .slice (some ⟨b6, 0, none⟩) 4 4])] post ∧
  ∀ x hs, post x hs → ∃ A3 : (Nat → Int), x = .agg (segCells .u8 32 A3 ++ ([])).toArray ∧ hs = [rowHP b7 false ([.int .u8 104, .int .u8 97, .int .u8 105, .int .u8 108, .int .u8 101, .int .u8 114, .int .u8 32, .int .u8 109, .int .u8 101, .int .u8 100, .int .u8 105, .int .u8 97]), rowHP b0 true (segCells .u8 16 A0 ++ ([])), rowHP b1 true (segCells .u8 32 A1 ++ ([])), rowHP b2 true (segCells .u8 32 A2 ++ ([])), rowHP b6 true ([.int .u8 x0, .int .u8 x1, .int .u8 x2, .int .u8 x3]), rowHP b8 true ([.slice (some ⟨b7, 0, none⟩) 12 12, .slice (some ⟨b0, 0, none⟩) 16 16, .slice (some ⟨b1, 0, none⟩) 32 32, .slice (some ⟨b2, 0, none⟩) 32 32, .slice (some ⟨b6, 0, none⟩) 4 4])] ∧
  Post (.agg (segCells .u8 32 A3 ++ ([])).toArray) [rowHP b0 true (segCells .u8 16 A0 ++ ([])), rowHP b1 true (segCells .u8 32 A1 ++ ([])), rowHP b2 true (segCells .u8 32 A2 ++ ([])), rowHP b3 true ([.int .u8 x0, .int .u8 x1]), rowHP b4 true ([.int .u8 x2, .int .u8 x3]), rowHP b5 true (segCells .u8 32 A3 ++ ([])), rowHP b6 true ([.int .u8 x0, .int .u8 x1, .int .u8 x2, .int .u8 x3]), rowHP b7 false ([.int .u8 104, .int .u8 97, .int .u8 105, .int .u8 108, .int .u8 101, .int .u8 114, .int .u8 32, .int .u8 109, .int .u8 101, .int .u8 100, .int .u8 105, .int .u8 97]), rowHP b8 true ([.slice (some ⟨b7, 0, none⟩) 12 12, .slice (some ⟨b0, 0, none⟩) 16 16, .slice (some ⟨b1, 0, none⟩) 32 32, .slice (some ⟨b2, 0, none⟩) 32 32, .slice (some ⟨b6, 0, none⟩) 4 4])])
theorem vc_media (P : Program) (Post : Value → List HP → Prop) (x0 : Int) (x1 : Int) (x2 : Int) (x3 : Int) (A0 : Nat → Int) (A1 : Nat → Int) (A2 : Nat → Int) (L : Nat → LC) : VC P Post fm_media { iv := [x0, x1, x2, x3], av := [A0, A1, A2], bo := [], bv := [], vv := [] } L = st_media P Post x0 x1 x2 x3 A0 A1 A2 := by kernel_rfl
theorem run_media : runF cx 44 ([Go.RX.SV.agg [Go.RX.SV.seg (Go.IntKind.u8) 16 (Go.RX.E.avar 0)], Go.RX.SV.agg [Go.RX.SV.seg (Go.IntKind.u8) 32 (Go.RX.E.avar 1)], Go.RX.SV.agg [Go.RX.SV.seg (Go.IntKind.u8) 32 (Go.RX.E.avar 2)], Go.RX.SV.agg [Go.RX.SV.int (Go.IntKind.u8) (Go.RX.E.var 0), Go.RX.SV.int (Go.IntKind.u8) (Go.RX.E.var 1)], Go.RX.SV.agg [Go.RX.SV.int (Go.IntKind.u8) (Go.RX.E.var 2), Go.RX.SV.int (Go.IntKind.u8) (Go.RX.E.var 3)]]) ([]) ({ b := 0, v := 0, i := 4, a := 3, bo := 0, p := 0, r := 0 }) Try.f44 = fm_media := rfl
end Go.RX.Sh
