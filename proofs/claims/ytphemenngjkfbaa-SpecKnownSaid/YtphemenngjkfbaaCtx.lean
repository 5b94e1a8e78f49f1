/- The types and functions of the seat's program, for the executor; printed by a program of ours (wip/tools/genctx.lean). -/
import Derived.Test.YtphemenngjkfbaaProg
import Derived.Test.YtphemenngjkfbaaRxZt
import Derived.KernelRfl
namespace Go.RX
open Go.Proofs
set_option maxRecDepth 100000
def TT : List TI := [
  ⟨3, .int .i64, 1, 8, [.int .i64 (.lit 0)], []⟩,
  ⟨4, .bool, 1, 1, [.bool (.lit false)], []⟩,
  ⟨5, .int .u8, 1, 1, [.int .u8 (.lit 0)], []⟩,
  ⟨22, .slice 32, 1, 24, [.nils], []⟩,
  ⟨24, .ptr 134, 1, 8, [.nilp], []⟩,
  ⟨25, .int .i64, 1, 8, [.int .i64 (.lit 0)], []⟩,
  ⟨28, .map 30 5, 1, 8, [.nilm], []⟩,
  ⟨30, .struct [(5, 0), (5, 1)], 2, 2, [.int .u8 (.lit 0), .int .u8 (.lit 0)], [(some .u8, 2)]⟩,
  ⟨32, .struct [(5, 0), (30, 1), (5, 3), (3, 4)], 5, 16, [.int .u8 (.lit 0), .int .u8 (.lit 0), .int .u8 (.lit 0), .int .u8 (.lit 0), .int .i64 (.lit 0)], [(some .u8, 4), (some .i64, 1)]⟩,
  ⟨40, .func, 1, 8, [.nilf], []⟩,
  ⟨43, .slice 5, 1, 24, [.nils], []⟩,
  ⟨45, .struct [(5, 0), (43, 1), (3, 2)], 3, 40, [.int .u8 (.lit 0), .nils, .int .i64 (.lit 0)], []⟩,
  ⟨48, .slice 30, 1, 24, [.nils], []⟩,
  ⟨52, .slice 53, 1, 24, [.nils], []⟩,
  ⟨53, .int .u16, 1, 2, [.int .u16 (.lit 0)], []⟩,
  ⟨54, .ptr 141, 1, 8, [.nilp], []⟩,
  ⟨60, .ptr 146, 1, 8, [.nilp], []⟩,
  ⟨63, .func, 1, 8, [.nilf], []⟩,
  ⟨64, .arr 8 5, 8, 8, [.seg .u8 8 (.lit 0)], [(some .u8, 8)]⟩,
  ⟨65, .slice 76, 1, 24, [.nils], []⟩,
  ⟨66, .ptr 154, 1, 8, [.nilp], []⟩,
  ⟨68, .map 72 30, 1, 8, [.nilm], []⟩,
  ⟨69, .map 72 74, 1, 8, [.nilm], []⟩,
  ⟨70, .int .u64, 1, 8, [.int .u64 (.lit 0)], []⟩,
  ⟨72, .arr 16 5, 16, 16, [.seg .u8 16 (.lit 0)], [(some .u8, 16)]⟩,
  ⟨73, .arr 32 5, 32, 32, [.seg .u8 32 (.lit 0)], [(some .u8, 32)]⟩,
  ⟨74, .arr 32 5, 32, 32, [.seg .u8 32 (.lit 0)], [(some .u8, 32)]⟩,
  ⟨76, .struct [(5, 0), (30, 1), (70, 3), (72, 4), (5, 20), (30, 21), (74, 23), (5, 55)], 56, 72, [.int .u8 (.lit 0), .int .u8 (.lit 0), .int .u8 (.lit 0), .int .u64 (.lit 0), .seg .u8 16 (.lit 0), .int .u8 (.lit 0), .int .u8 (.lit 0), .int .u8 (.lit 0), .seg .u8 32 (.lit 0), .int .u8 (.lit 0)], [(some .u8, 3), (some .u64, 1), (some .u8, 52)]⟩,
  ⟨80, .map 72 86, 1, 8, [.nilm], []⟩,
  ⟨85, .struct [(72, 0), (5, 16), (4, 17), (5, 18), (70, 19), (70, 20), (70, 21)], 22, 48, [.seg .u8 16 (.lit 0), .int .u8 (.lit 0), .bool (.lit false), .int .u8 (.lit 0), .int .u64 (.lit 0), .int .u64 (.lit 0), .int .u64 (.lit 0)], [(some .u8, 17), (none, 1), (some .u8, 1), (some .u64, 3)]⟩,
  ⟨86, .struct [], 0, 0, [], []⟩,
  ⟨93, .func, 1, 8, [.nilf], []⟩,
  ⟨98, .ptr 172, 1, 8, [.nilp], []⟩,
  ⟨100, .slice 111, 1, 24, [.nils], []⟩,
  ⟨101, .slice 85, 1, 24, [.nils], []⟩,
  ⟨103, .struct [(100, 0), (65, 1), (101, 2)], 3, 72, [.nils, .nils, .nils], []⟩,
  ⟨107, .int .u32, 1, 4, [.int .u32 (.lit 0)], []⟩,
  ⟨109, .struct [(5, 0), (72, 1), (30, 17), (5, 19), (74, 20), (107, 52), (43, 53), (5, 54)], 55, 88, [.int .u8 (.lit 0), .seg .u8 16 (.lit 0), .int .u8 (.lit 0), .int .u8 (.lit 0), .int .u8 (.lit 0), .seg .u8 32 (.lit 0), .int .u32 (.lit 0), .nils, .int .u8 (.lit 0)], []⟩,
  ⟨111, .struct [(30, 0), (109, 2)], 57, 96, [.int .u8 (.lit 0), .int .u8 (.lit 0), .int .u8 (.lit 0), .seg .u8 16 (.lit 0), .int .u8 (.lit 0), .int .u8 (.lit 0), .int .u8 (.lit 0), .seg .u8 32 (.lit 0), .int .u32 (.lit 0), .nils, .int .u8 (.lit 0)], []⟩,
  ⟨119, .slice 123, 1, 24, [.nils], []⟩,
  ⟨120, .ptr 130, 1, 8, [.nilp], []⟩,
  ⟨123, .struct [(5, 0), (5, 1), (53, 2), (5, 3)], 4, 6, [.int .u8 (.lit 0), .int .u8 (.lit 0), .int .u16 (.lit 0), .int .u8 (.lit 0)], [(some .u8, 2), (some .u16, 1), (some .u8, 1)]⟩,
  ⟨125, .arr 4 98, 4, 32, [.nilp, .nilp, .nilp, .nilp], []⟩,
  ⟨126, .slice 216, 1, 24, [.nils], []⟩,
  ⟨127, .map 30 188, 1, 8, [.nilm], []⟩,
  ⟨128, .map 30 101, 1, 8, [.nilm], []⟩,
  ⟨130, .struct [(70, 0), (125, 1), (126, 5), (53, 6), (68, 7), (69, 8), (65, 9), (127, 10), (128, 11), (4, 12)], 13, 136, [.int .u64 (.lit 0), .nilp, .nilp, .nilp, .nilp, .nils, .int .u16 (.lit 0), .nilm, .nilm, .nils, .nilm, .nilm, .bool (.lit false)], []⟩,
  ⟨134, .struct [(5, 0), (43, 1), (3, 2)], 3, 40, [.int .u8 (.lit 0), .nils, .int .i64 (.lit 0)], []⟩,
  ⟨138, .ptr 45, 1, 8, [.nilp], []⟩,
  ⟨141, .struct [(52, 0), (3, 1)], 2, 32, [.nils, .int .i64 (.lit 0)], []⟩,
  ⟨144, .slice 3, 1, 24, [.nils], []⟩,
  ⟨146, .struct [(144, 0), (3, 1)], 2, 32, [.nils, .int .i64 (.lit 0)], []⟩,
  ⟨151, .map 72 161, 1, 8, [.nilm], []⟩,
  ⟨152, .map 30 155, 1, 8, [.nilm], []⟩,
  ⟨154, .struct [(64, 0), (151, 8), (152, 9), (70, 10)], 11, 32, [.seg .u8 8 (.lit 0), .nilm, .nilm, .int .u64 (.lit 0)], []⟩,
  ⟨155, .ptr 157, 1, 8, [.nilp], []⟩,
  ⟨157, .struct [(5, 0), (72, 1), (4, 17), (5, 18), (30, 19), (70, 21), (70, 22), (80, 23), (101, 24)], 25, 72, [.int .u8 (.lit 0), .seg .u8 16 (.lit 0), .bool (.lit false), .int .u8 (.lit 0), .int .u8 (.lit 0), .int .u8 (.lit 0), .int .u64 (.lit 0), .int .u64 (.lit 0), .nilm, .nils], []⟩,
  ⟨161, .ptr 163, 1, 8, [.nilp], []⟩,
  ⟨163, .struct [(30, 0), (5, 2), (48, 3), (4, 4), (4, 5), (30, 6), (4, 8), (74, 9)], 41, 72, [.int .u8 (.lit 0), .int .u8 (.lit 0), .int .u8 (.lit 0), .nils, .bool (.lit false), .bool (.lit false), .int .u8 (.lit 0), .int .u8 (.lit 0), .bool (.lit false), .seg .u8 32 (.lit 0)], []⟩,
  ⟨168, .ptr 205, 1, 8, [.nilp], []⟩,
  ⟨170, .ptr 208, 1, 8, [.nilp], []⟩,
  ⟨172, .struct [(30, 0), (64, 2), (168, 10), (5, 11), (72, 12), (4, 28), (5, 29), (30, 30), (74, 32), (74, 64), (74, 96), (24, 128), (170, 129), (70, 130), (70, 131), (70, 132), (70, 133), (70, 134), (107, 135)], 136, 208, [.int .u8 (.lit 0), .int .u8 (.lit 0), .seg .u8 8 (.lit 0), .nilp, .int .u8 (.lit 0), .seg .u8 16 (.lit 0), .bool (.lit false), .int .u8 (.lit 0), .int .u8 (.lit 0), .int .u8 (.lit 0), .seg .u8 32 (.lit 0), .seg .u8 32 (.lit 0), .seg .u8 32 (.lit 0), .nilp, .nilp, .int .u64 (.lit 0), .int .u64 (.lit 0), .int .u64 (.lit 0), .int .u64 (.lit 0), .int .u64 (.lit 0), .int .u32 (.lit 0)], []⟩,
  ⟨177, .ptr 103, 1, 8, [.nilp], []⟩,
  ⟨188, .map 72 5, 1, 8, [.nilm], []⟩,
  ⟨189, .int .u64, 1, 8, [.int .u64 (.lit 0)], []⟩,
  ⟨198, .slice 43, 1, 24, [.nils], []⟩,
  ⟨199, .ptr 227, 1, 8, [.nilp], []⟩,
  ⟨203, .slice 72, 1, 24, [.nils], []⟩,
  ⟨205, .struct [(203, 0), (3, 1)], 2, 32, [.nils, .int .i64 (.lit 0)], []⟩,
  ⟨208, .struct [(48, 0), (3, 1)], 2, 32, [.nils, .int .i64 (.lit 0)], []⟩,
  ⟨216, .struct [(30, 0), (111, 2)], 59, 104, [.int .u8 (.lit 0), .int .u8 (.lit 0), .int .u8 (.lit 0), .int .u8 (.lit 0), .int .u8 (.lit 0), .seg .u8 16 (.lit 0), .int .u8 (.lit 0), .int .u8 (.lit 0), .int .u8 (.lit 0), .seg .u8 32 (.lit 0), .int .u32 (.lit 0), .nils, .int .u8 (.lit 0)], []⟩,
  ⟨219, .slice 107, 1, 24, [.nils], []⟩,
  ⟨221, .slice 70, 1, 24, [.nils], []⟩,
  ⟨223, .arr 3 3, 3, 24, [.seg .i64 3 (.lit 0)], [(some .i64, 3)]⟩,
  ⟨225, .struct [(223, 0), (223, 3), (223, 6), (223, 9)], 12, 96, [.seg .i64 3 (.lit 0), .seg .i64 3 (.lit 0), .seg .i64 3 (.lit 0), .seg .i64 3 (.lit 0)], [(some .i64, 12)]⟩,
  ⟨227, .struct [(219, 0), (219, 1), (3, 2), (225, 3)], 15, 152, [.nils, .nils, .int .i64 (.lit 0), .seg .i64 3 (.lit 0), .seg .i64 3 (.lit 0), .seg .i64 3 (.lit 0), .seg .i64 3 (.lit 0)], []⟩,
  ⟨237, .arr 8 107, 8, 32, [.seg .u32 8 (.lit 0)], [(some .u32, 8)]⟩]
theorem okT : checkT Try.prog TT = true := by kernel_rfl
noncomputable def FT : List (Nat × Func) := [(2, Try.f2), (3, Try.f3), (4, Try.f4), (5, Try.f5), (6, Try.f6), (7, Try.f7), (8, Try.f8), (9, Try.f9), (10, Try.f10), (11, Try.f11), (12, Try.f12), (13, Try.f13), (14, Try.f14), (15, Try.f15), (16, Try.f16), (17, Try.f17), (18, Try.f18), (19, Try.f19), (20, Try.f20), (21, Try.f21), (22, Try.f22), (23, Try.f23), (24, Try.f24), (25, Try.f25), (26, Try.f26), (27, Try.f27), (28, Try.f28), (29, Try.f29), (30, Try.f30), (31, Try.f31), (32, Try.f32), (33, Try.f33), (34, Try.f34), (35, Try.f35), (36, Try.f36), (37, Try.f37), (38, Try.f38), (39, Try.f39), (40, Try.f40), (41, Try.f41), (42, Try.f42), (43, Try.f43), (44, Try.f44), (45, Try.f45), (46, Try.f46), (47, Try.f47), (48, Try.f48), (49, Try.f49), (50, Try.f50), (51, Try.f51), (52, Try.f52), (53, Try.f53), (54, Try.f54), (55, Try.f55), (56, Try.f56), (57, Try.f57), (58, Try.f58), (59, Try.f59), (60, Try.f60), (61, Try.f61), (62, Try.f62), (63, Try.f63), (64, Try.f64), (65, Try.f65), (66, Try.f66), (67, Try.f67), (68, Try.f68), (69, Try.f69), (70, Try.f70), (71, Try.f71), (72, Try.f72), (73, Try.f73), (74, Try.f74), (75, Try.f75), (76, Try.f76), (77, Try.f77), (78, Try.f78), (79, Try.f79), (80, Try.f80), (81, Try.f81), (82, Try.f82), (83, Try.f83), (84, Try.f84), (85, Try.f85), (86, Try.f86), (87, Try.f87), (88, Try.f88), (89, Try.f89), (90, Try.f90), (91, Try.f91), (92, Try.f92), (93, Try.f93), (94, Try.f94), (95, Try.f95), (96, Try.f96), (97, Try.f97), (98, Try.f98), (99, Try.f99), (100, Try.f100), (101, Try.f101), (102, Try.f102), (103, Try.f103), (104, Try.f104), (105, Try.f105), (106, Try.f106), (107, Try.f107), (108, Try.f108), (109, Try.f109), (110, Try.f110), (111, Try.f111), (112, Try.f112), (113, Try.f113), (114, Try.f114), (115, Try.f115), (116, Try.f116), (117, Try.f117), (118, Try.f118), (119, Try.f119), (120, Try.f120), (121, Try.f121), (122, Try.f122), (123, Try.f123), (124, Try.f124), (125, Try.f125), (126, Try.f126), (127, Try.f127), (128, Try.f128), (129, Try.f129), (130, Try.f130), (131, Try.f131), (132, Try.f132), (133, Try.f133), (134, Try.f134), (135, Try.f135), (137, Try.f137), (138, Try.f138), (139, Try.f139), (140, Try.f140), (141, Try.f141), (142, Try.f142), (143, Try.f143)]
theorem okFT : FTOk 
  Try.prog FT :=
  FTOk.cons Try.func2 (by kernel_rfl) <|
  FTOk.cons Try.func3 (by kernel_rfl) <|
  FTOk.cons Try.func4 (by kernel_rfl) <|
  FTOk.cons Try.func5 (by kernel_rfl) <|
  FTOk.cons Try.func6 (by kernel_rfl) <|
  FTOk.cons Try.func7 (by kernel_rfl) <|
  FTOk.cons Try.func8 (by kernel_rfl) <|
  FTOk.cons Try.func9 (by kernel_rfl) <|
  FTOk.cons Try.func10 (by kernel_rfl) <|
  FTOk.cons Try.func11 (by kernel_rfl) <|
  FTOk.cons Try.func12 (by kernel_rfl) <|
  FTOk.cons Try.func13 (by kernel_rfl) <|
  FTOk.cons Try.func14 (by kernel_rfl) <|
  FTOk.cons Try.func15 (by kernel_rfl) <|
  FTOk.cons Try.func16 (by kernel_rfl) <|
  FTOk.cons Try.func17 (by kernel_rfl) <|
  FTOk.cons Try.func18 (by kernel_rfl) <|
  FTOk.cons Try.func19 (by kernel_rfl) <|
  FTOk.cons Try.func20 (by kernel_rfl) <|
  FTOk.cons Try.func21 (by kernel_rfl) <|
  FTOk.cons Try.func22 (by kernel_rfl) <|
  FTOk.cons Try.func23 (by kernel_rfl) <|
  FTOk.cons Try.func24 (by kernel_rfl) <|
  FTOk.cons Try.func25 (by kernel_rfl) <|
  FTOk.cons Try.func26 (by kernel_rfl) <|
  FTOk.cons Try.func27 (by kernel_rfl) <|
  FTOk.cons Try.func28 (by kernel_rfl) <|
  FTOk.cons Try.func29 (by kernel_rfl) <|
  FTOk.cons Try.func30 (by kernel_rfl) <|
  FTOk.cons Try.func31 (by kernel_rfl) <|
  FTOk.cons Try.func32 (by kernel_rfl) <|
  FTOk.cons Try.func33 (by kernel_rfl) <|
  FTOk.cons Try.func34 (by kernel_rfl) <|
  FTOk.cons Try.func35 (by kernel_rfl) <|
  FTOk.cons Try.func36 (by kernel_rfl) <|
  FTOk.cons Try.func37 (by kernel_rfl) <|
  FTOk.cons Try.func38 (by kernel_rfl) <|
  FTOk.cons Try.func39 (by kernel_rfl) <|
  FTOk.cons Try.func40 (by kernel_rfl) <|
  FTOk.cons Try.func41 (by kernel_rfl) <|
  FTOk.cons Try.func42 (by kernel_rfl) <|
  FTOk.cons Try.func43 (by kernel_rfl) <|
  FTOk.cons Try.func44 (by kernel_rfl) <|
  FTOk.cons Try.func45 (by kernel_rfl) <|
  FTOk.cons Try.func46 (by kernel_rfl) <|
  FTOk.cons Try.func47 (by kernel_rfl) <|
  FTOk.cons Try.func48 (by kernel_rfl) <|
  FTOk.cons Try.func49 (by kernel_rfl) <|
  FTOk.cons Try.func50 (by kernel_rfl) <|
  FTOk.cons Try.func51 (by kernel_rfl) <|
  FTOk.cons Try.func52 (by kernel_rfl) <|
  FTOk.cons Try.func53 (by kernel_rfl) <|
  FTOk.cons Try.func54 (by kernel_rfl) <|
  FTOk.cons Try.func55 (by kernel_rfl) <|
  FTOk.cons Try.func56 (by kernel_rfl) <|
  FTOk.cons Try.func57 (by kernel_rfl) <|
  FTOk.cons Try.func58 (by kernel_rfl) <|
  FTOk.cons Try.func59 (by kernel_rfl) <|
  FTOk.cons Try.func60 (by kernel_rfl) <|
  FTOk.cons Try.func61 (by kernel_rfl) <|
  FTOk.cons Try.func62 (by kernel_rfl) <|
  FTOk.cons Try.func63 (by kernel_rfl) <|
  FTOk.cons Try.func64 (by kernel_rfl) <|
  FTOk.cons Try.func65 (by kernel_rfl) <|
  FTOk.cons Try.func66 (by kernel_rfl) <|
  FTOk.cons Try.func67 (by kernel_rfl) <|
  FTOk.cons Try.func68 (by kernel_rfl) <|
  FTOk.cons Try.func69 (by kernel_rfl) <|
  FTOk.cons Try.func70 (by kernel_rfl) <|
  FTOk.cons Try.func71 (by kernel_rfl) <|
  FTOk.cons Try.func72 (by kernel_rfl) <|
  FTOk.cons Try.func73 (by kernel_rfl) <|
  FTOk.cons Try.func74 (by kernel_rfl) <|
  FTOk.cons Try.func75 (by kernel_rfl) <|
  FTOk.cons Try.func76 (by kernel_rfl) <|
  FTOk.cons Try.func77 (by kernel_rfl) <|
  FTOk.cons Try.func78 (by kernel_rfl) <|
  FTOk.cons Try.func79 (by kernel_rfl) <|
  FTOk.cons Try.func80 (by kernel_rfl) <|
  FTOk.cons Try.func81 (by kernel_rfl) <|
  FTOk.cons Try.func82 (by kernel_rfl) <|
  FTOk.cons Try.func83 (by kernel_rfl) <|
  FTOk.cons Try.func84 (by kernel_rfl) <|
  FTOk.cons Try.func85 (by kernel_rfl) <|
  FTOk.cons Try.func86 (by kernel_rfl) <|
  FTOk.cons Try.func87 (by kernel_rfl) <|
  FTOk.cons Try.func88 (by kernel_rfl) <|
  FTOk.cons Try.func89 (by kernel_rfl) <|
  FTOk.cons Try.func90 (by kernel_rfl) <|
  FTOk.cons Try.func91 (by kernel_rfl) <|
  FTOk.cons Try.func92 (by kernel_rfl) <|
  FTOk.cons Try.func93 (by kernel_rfl) <|
  FTOk.cons Try.func94 (by kernel_rfl) <|
  FTOk.cons Try.func95 (by kernel_rfl) <|
  FTOk.cons Try.func96 (by kernel_rfl) <|
  FTOk.cons Try.func97 (by kernel_rfl) <|
  FTOk.cons Try.func98 (by kernel_rfl) <|
  FTOk.cons Try.func99 (by kernel_rfl) <|
  FTOk.cons Try.func100 (by kernel_rfl) <|
  FTOk.cons Try.func101 (by kernel_rfl) <|
  FTOk.cons Try.func102 (by kernel_rfl) <|
  FTOk.cons Try.func103 (by kernel_rfl) <|
  FTOk.cons Try.func104 (by kernel_rfl) <|
  FTOk.cons Try.func105 (by kernel_rfl) <|
  FTOk.cons Try.func106 (by kernel_rfl) <|
  FTOk.cons Try.func107 (by kernel_rfl) <|
  FTOk.cons Try.func108 (by kernel_rfl) <|
  FTOk.cons Try.func109 (by kernel_rfl) <|
  FTOk.cons Try.func110 (by kernel_rfl) <|
  FTOk.cons Try.func111 (by kernel_rfl) <|
  FTOk.cons Try.func112 (by kernel_rfl) <|
  FTOk.cons Try.func113 (by kernel_rfl) <|
  FTOk.cons Try.func114 (by kernel_rfl) <|
  FTOk.cons Try.func115 (by kernel_rfl) <|
  FTOk.cons Try.func116 (by kernel_rfl) <|
  FTOk.cons Try.func117 (by kernel_rfl) <|
  FTOk.cons Try.func118 (by kernel_rfl) <|
  FTOk.cons Try.func119 (by kernel_rfl) <|
  FTOk.cons Try.func120 (by kernel_rfl) <|
  FTOk.cons Try.func121 (by kernel_rfl) <|
  FTOk.cons Try.func122 (by kernel_rfl) <|
  FTOk.cons Try.func123 (by kernel_rfl) <|
  FTOk.cons Try.func124 (by kernel_rfl) <|
  FTOk.cons Try.func125 (by kernel_rfl) <|
  FTOk.cons Try.func126 (by kernel_rfl) <|
  FTOk.cons Try.func127 (by kernel_rfl) <|
  FTOk.cons Try.func128 (by kernel_rfl) <|
  FTOk.cons Try.func129 (by kernel_rfl) <|
  FTOk.cons Try.func130 (by kernel_rfl) <|
  FTOk.cons Try.func131 (by kernel_rfl) <|
  FTOk.cons Try.func132 (by kernel_rfl) <|
  FTOk.cons Try.func133 (by kernel_rfl) <|
  FTOk.cons Try.func134 (by kernel_rfl) <|
  FTOk.cons Try.func135 (by kernel_rfl) <|
  FTOk.cons Try.func137 (by kernel_rfl) <|
  FTOk.cons Try.func138 (by kernel_rfl) <|
  FTOk.cons Try.func139 (by kernel_rfl) <|
  FTOk.cons Try.func140 (by kernel_rfl) <|
  FTOk.cons Try.func141 (by kernel_rfl) <|
  FTOk.cons Try.func142 (by kernel_rfl) <|
  FTOk.cons Try.func143 (by kernel_rfl) <|
  FTOk.nil
theorem okM : Try.prog.follows .mixedOrders = true := by kernel_rfl
end Go.RX
