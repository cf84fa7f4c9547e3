/-
  What the functions beside the table answer: strings.Split at one byte, strings.Join, strings.Index of one byte and strings.ContainsAny of the two bytes that no name has. What the interpreter is told of the program is so.
-/
import Derived.Test.YteiefdnhngfojaaGreatDoorProg
import Derived.Test.YteiefdnhngfojaaGreatDoorVmC
import Derived.Lib.SplitLaws
import Derived.Lib.Join
import Derived.Lib.Strings
import Derived.Lib.IndexBytes
import Derived.Lib.IndexAny
set_option linter.unusedVariables false
namespace Go.Proofs.YteiefdnhngfojaaGreatDoor.VmI
open Go Go.Proofs.YteiefdnhngfojaaGreatDoor.Vm
abbrev t43 : Ty := (.struct (.pair .str .str))
abbrev Y43 : Type := (ByteArray × ByteArray)
abbrev t13 : Ty := (.struct (.pair .str (.int .u64)))
abbrev Y13 : Type := (ByteArray × Int)
abbrev t45 : Ty := (.struct (.pair .str (.int .i64)))
abbrev Y45 : Type := (ByteArray × Int)
abbrev t87 : Ty := (.struct (.pair (.int .i64) .str))
abbrev Y87 : Type := (Int × ByteArray)
abbrev t193 : Ty := (.struct (.pair (.int .u8) (.int .u8)))
abbrev Y193 : Type := (Int × Int)
abbrev t83 : Ty := (.struct (.pair (.int .i64) (.pair (.int .i64) (.int .i64))))
abbrev Y83 : Type := (Int × (Int × Int))
abbrev t64 : Ty := (.struct (.pair (.int .i64) (.pair .str (.pair .str (.int .i64)))))
abbrev Y64 : Type := (Int × (ByteArray × (ByteArray × Int)))
abbrev t7 : Ty := (.struct (.pair (.int .i64) (.pair (.int .i64) (.pair .bool (.int .u8)))))
abbrev Y7 : Type := (Int × (Int × (Bool × Int)))
abbrev t38 : Ty := (.struct (.pair (.int .i64) (.pair (.int .i64) (.pair (.int .i64) (.pair (.int .i64) (.pair (.list 44 t43) (.list 84 t83)))))))
abbrev Y38 : Type := (Int × (Int × (Int × (Int × ((List Y43) × (List Y83))))))
abbrev t41 : Ty := (.struct (.pair (.int .i64) (.pair t38 (.pair (.int .i64) (.pair (.list 88 t87) (.pair .str (.pair (.int .i64) (.int .i64))))))))
abbrev Y41 : Type := (Int × (Y38 × (Int × ((List Y87) × (ByteArray × (Int × Int))))))
abbrev t24 : Ty := (.struct (.pair (.list 46 t45) (.list 42 t41)))
abbrev Y24 : Type := ((List Y45) × (List Y41))
def tyT : List (Nat × Ty) := [(2, (.int .i64)), (3, (.int .i64)), (4, .bool), (5, (.int .u8)), (6, (.int .u8)), (7, t7), (8, t7), (9, .str), (10, .str), (11, .str), (12, (.int .u64)), (13, t13), (14, t13), (21, (.int .i32)), (22, (.list 46 t45)), (23, (.list 42 t41)), (24, t24), (25, t24), (32, (.list 3 (.int .i64))), (33, (.int .u64)), (36, (.list 44 t43)), (37, (.list 84 t83)), (38, t38), (39, t38), (40, (.list 88 t87)), (41, t41), (42, t41), (43, t43), (44, t43), (45, t45), (46, t45), (50, (.list 9 .str)), (57, (.list 65 t64)), (64, t64), (65, t64), (83, t83), (84, t83), (87, t87), (88, t87), (138, (.list 154 .cx)), (154, .cx), (157, (.list 5 (.int .u8))), (170, .flt), (189, (.int .u32)), (193, t193), (194, t193), (202, (.int .u8)), (203, (.int .u8)), (205, (.int .i32)), (206, (.int .i32))]
def byT : List (Nat × Nat) := [(2, 8), (3, 8), (4, 1), (5, 1), (6, 1), (7, 24), (8, 24), (9, 16), (10, 16), (11, 16), (12, 8), (13, 24), (14, 24), (21, 4), (22, 24), (23, 24), (24, 48), (25, 48), (32, 24), (33, 8), (36, 24), (37, 24), (38, 80), (39, 80), (40, 24), (41, 152), (42, 152), (43, 32), (44, 32), (45, 24), (46, 24), (50, 24), (57, 24), (64, 48), (65, 48), (83, 24), (84, 24), (87, 24), (88, 24), (138, 24), (154, 16), (157, 24), (170, 8), (189, 4), (193, 2), (194, 2), (202, 1), (203, 1), (205, 4), (206, 4)]
noncomputable def fnT : List (Nat × Func) := [(3, Tryz.f3), (7, Tryz.f7), (18, Tryz.f18), (19, Tryz.f19), (20, Tryz.f20), (21, Tryz.f21), (22, Tryz.f22), (23, Tryz.f23), (24, Tryz.f24), (25, Tryz.f25), (26, Tryz.f26), (27, Tryz.f27), (28, Tryz.f28), (29, Tryz.f29), (33, Tryz.f33), (34, Tryz.f34), (40, Tryz.f40), (42, Tryz.f42), (47, Tryz.f47), (48, Tryz.f48), (54, Tryz.f54), (59, Tryz.f59), (61, Tryz.f61), (62, Tryz.f62), (63, Tryz.f63), (64, Tryz.f64), (65, Tryz.f65), (66, Tryz.f66), (67, Tryz.f67), (68, Tryz.f68), (69, Tryz.f69), (70, Tryz.f70), (73, Tryz.f73), (74, Tryz.f74), (75, Tryz.f75), (76, Tryz.f76), (81, Tryz.f81), (87, Tryz.f87), (88, Tryz.f88), (91, Tryz.f91), (94, Tryz.f94), (95, Tryz.f95), (96, Tryz.f96), (97, Tryz.f97), (98, Tryz.f98), (99, Tryz.f99), (105, Tryz.f105), (106, Tryz.f106), (107, Tryz.f107), (108, Tryz.f108), (109, Tryz.f109), (110, Tryz.f110), (111, Tryz.f111), (112, Tryz.f112), (113, Tryz.f113), (114, Tryz.f114), (115, Tryz.f115), (116, Tryz.f116), (118, Tryz.f118), (119, Tryz.f119), (120, Tryz.f120), (125, Tryz.f125), (126, Tryz.f126), (127, Tryz.f127), (128, Tryz.f128), (129, Tryz.f129), (130, Tryz.f130), (132, Tryz.f132), (133, Tryz.f133), (134, Tryz.f134), (135, Tryz.f135), (136, Tryz.f136), (137, Tryz.f137), (138, Tryz.f138), (139, Tryz.f139), (140, Tryz.f140), (141, Tryz.f141), (142, Tryz.f142), (143, Tryz.f143), (144, Tryz.f144), (153, Tryz.f153), (154, Tryz.f154), (155, Tryz.f155), (156, Tryz.f156), (157, Tryz.f157), (158, Tryz.f158), (159, Tryz.f159), (163, Tryz.f163), (164, Tryz.f164), (165, Tryz.f165), (166, Tryz.f166), (167, Tryz.f167), (168, Tryz.f168), (169, Tryz.f169), (170, Tryz.f170), (176, Tryz.f176), (177, Tryz.f177), (178, Tryz.f178), (179, Tryz.f179), (180, Tryz.f180), (181, Tryz.f181), (182, Tryz.f182), (187, Tryz.f187), (188, Tryz.f188), (189, Tryz.f189), (194, Tryz.f194), (195, Tryz.f195), (196, Tryz.f196)]
def psT : List (Nat × List Ty) := [(3, [t24, t24]), (7, [.str, (.int .i64), (.int .i64)]), (18, [t24]), (19, []), (20, [t24, t24]), (21, [t24, t24]), (22, [t24, t24]), (23, [t24, t24]), (24, [t24, t24]), (25, [t24, t24]), (26, [t24, t24]), (27, [t24, t24]), (28, [t24, t24]), (29, [t24, t24]), (33, [t24, .str]), (34, [t41, (.int .i64), .str]), (40, [.str]), (42, [t24]), (47, [t24, .str]), (48, [t24]), (54, [t24, .str]), (59, [.str, .str]), (61, [t41]), (62, [t24, t24]), (63, [t41, t41]), (64, [t41, t41]), (65, [t24, t24]), (66, [.str, .str]), (67, [t24, t24]), (68, [t24, .str]), (69, [(.list 9 .str), (.list 9 .str)]), (70, [t24, t24, .str]), (73, [t41]), (74, [(.list 88 t87), (.int .i64), (.int .i64)]), (75, [(.list 88 t87)]), (76, [t41]), (81, [(.int .i64), (.int .i64)]), (87, [.str]), (88, [.str]), (91, [t45, t45]), (94, [.str]), (95, [(.list 42 t41), .fn]), (96, [t41]), (97, [t41]), (98, [.str]), (99, [t24, (.int .i64)]), (105, [t41]), (106, [.str]), (107, [t38]), (108, [t38, t38]), (109, [(.list 88 t87), (.list 88 t87)]), (110, [t38, t38]), (111, [(.list 88 t87), (.list 88 t87)]), (112, [.str, .str]), (113, [(.own 9 .str), (.fns t24)]), (114, [.str, (.ptr t24)]), (115, [t38]), (116, [t41]), (118, [(.int .i64)]), (119, [.str]), (120, [.str]), (125, [.str]), (126, [(.list 42 t41), .fn]), (127, [t38]), (128, [t41]), (129, [t41]), (130, [t41]), (131, [.str, .str]), (132, [.str]), (133, [(.list 46 t45), .str, .fn]), (134, [t45, .str]), (135, [(.list 44 t43), (.list 44 t43)]), (136, [(.list 84 t83), (.list 84 t83)]), (137, [(.list 44 t43), (.list 44 t43)]), (138, [(.list 84 t83), (.list 84 t83)]), (139, [(.list 9 .str), (.list 9 .str)]), (140, [(.list 9 .str), (.fns t24)]), (141, [t43]), (142, [(.list 84 t83)]), (143, [(.list 154 .cx), (.int .i64)]), (144, [t41]), (152, [(.list 9 .str), .str]), (153, [t43]), (154, [t43, t43]), (155, [(.list 84 t83)]), (156, [(.list 154 .cx), (.int .i64)]), (157, [t41]), (158, [(.list 88 t87), .fn]), (159, [t87]), (160, [.str, .str]), (162, [.str, .str]), (163, [(.list 84 t83), (.list 84 t83)]), (164, [.str, .str]), (165, [t83]), (166, [t83, t83]), (167, [(.list 84 t83)]), (168, [.cx]), (169, [.cx]), (170, [(.int .i64), (.int .i64)]), (176, [t83]), (177, [t83, t83]), (178, [.cx]), (179, [.cx]), (180, [.cx]), (181, [(.int .i64), (.int .i64)]), (182, [(.list 88 t87), .fn]), (187, [.str]), (188, [.flt]), (189, [(.int .i64)]), (194, [(.list 3 (.int .i64))]), (195, [.flt]), (196, [(.int .i64)])]
def rsT : List (Nat × List Ty) := [(3, [.bool]), (7, [.bool]), (18, [.bool]), (19, [.bool]), (20, [.str, .str]), (21, [.str, .str]), (22, [.str]), (23, [.str]), (24, [.str]), (25, [.str]), (26, [.bool]), (27, [.bool]), (28, [.bool]), (29, [.bool]), (33, [(.int .i64), .bool]), (34, [t41, (.int .i64)]), (40, [.str, .bool]), (42, [.bool]), (47, [(.int .i64), .bool]), (48, [.bool]), (54, [(.own 9 .str)]), (59, [.bool]), (61, [.bool]), (62, [.bool]), (63, [.str]), (64, [.str]), (65, [.str]), (66, [.bool]), (67, [.str]), (68, [.bool]), (69, [.bool]), (70, [(.list 9 .str)]), (73, [.bool]), (74, [(.own 88 t87)]), (75, [(.own 88 t87)]), (76, [(.int .i64)]), (81, [(.int .i64)]), (87, [(.list 9 .str)]), (88, [.bool]), (91, [(.int .i64)]), (94, [.str, .bool]), (95, [.bool]), (96, [.bool]), (97, [.bool]), (98, [.bool]), (99, [.bool]), (105, [(.int .i64)]), (106, [.bool]), (107, [.bool]), (108, [.str]), (109, [.bool]), (110, [.str]), (111, [.bool]), (112, [(.int .i64)]), (113, [(.own 9 .str)]), (114, [.bool]), (115, [.bool]), (116, [.bool]), (118, [.bool]), (119, [(.list 9 .str)]), (120, [(.list 9 .str)]), (125, [.str, .str, .bool]), (126, [(.int .i64)]), (127, [.bool]), (128, [.bool]), (129, [.bool]), (130, [.bool]), (131, [(.list 9 .str)]), (132, [.bool]), (133, [(.int .i64), .bool]), (134, [(.int .i64)]), (135, [.bool]), (136, [.bool]), (137, [.bool]), (138, [.bool]), (139, [(.int .i64)]), (140, [(.int .i64)]), (141, [.bool]), (142, [.bool]), (143, [.bool]), (144, [(.list 154 .cx)]), (152, [.str]), (153, [.bool]), (154, [(.int .i64)]), (155, [.bool]), (156, [.bool]), (157, [(.list 154 .cx)]), (158, [.bool]), (159, [.bool]), (160, [.bool]), (162, [.bool]), (163, [.bool]), (164, [(.int .i64)]), (165, [.bool]), (166, [.bool]), (167, [.bool]), (168, [(.int .i64)]), (169, [(.int .i64)]), (170, [.cx]), (176, [.bool]), (177, [(.int .i64)]), (178, [(.int .i64)]), (179, [(.int .i64)]), (180, [(.int .i64)]), (181, [.cx]), (182, [(.int .i64)]), (187, [.bool]), (188, [(.int .i64)]), (189, [(.int .i64)]), (194, [(.int .i64)]), (195, [(.int .i64)]), (196, [(.int .i64)])]
def liveT : List (Nat × List (Nat × List Nat)) := [(3, [(0, [2, 3]), (1, [2, 3, 16]), (2, [4]), (3, [2, 3, 5, 6]), (4, [2, 3, 5, 6, 7, 8]), (5, [4])]), (7, [(0, [0, 1, 2]), (1, [0, 1, 2, 7]), (2, [0, 8, 9]), (3, [0, 8, 9, 37]), (4, [6]), (5, [8, 9, 10, 11]), (6, [8, 9, 10, 11, 12]), (7, [8, 9, 10, 11, 12, 13]), (8, [8, 11, 13, 14]), (9, [8, 11, 13, 14, 15, 16]), (10, [6])]), (18, [(0, [1]), (1, [1, 3]), (2, [1, 3, 9]), (3, [1, 3]), (4, [1, 3, 19]), (5, [2]), (6, [1, 4]), (7, [1, 4, 24]), (8, [1, 4]), (9, [1, 4, 33]), (10, [2]), (11, [2])]), (19, [(0, []), (1, [1, 2]), (2, [1, 2, 3]), (3, [3, 4]), (4, [3, 4, 5]), (5, [3, 4, 5, 6, 7]), (6, [3, 4, 5, 6, 7, 8, 9]), (7, [0])]), (20, [(0, [2, 3]), (1, [2, 3, 14]), (2, [4, 5]), (3, [2, 3, 16, 17, 18]), (4, [2, 3, 16, 17, 18, 19]), (5, [2, 3, 7, 16, 17, 18]), (6, [2, 3, 7, 8, 9, 16, 17, 18]), (7, [2, 3, 7, 8, 16, 17, 18, 30]), (8, [2, 3, 7, 10, 16, 17, 18]), (9, [2, 3, 7, 10, 16, 17, 18, 44]), (10, [7, 10, 47]), (11, [4, 5]), (12, [4, 5]), (13, [2, 3, 16, 17, 18]), (14, [4, 5])]), (21, [(0, [2, 3]), (1, [2, 3, 18]), (2, [4, 5]), (3, [2, 3, 6]), (4, [2, 3, 6, 23]), (5, [2, 3, 6]), (6, [2, 3, 6, 7]), (7, [2, 3, 6, 7, 8, 9]), (8, [2, 3, 6, 7, 8, 39]), (9, [2, 3, 6, 7, 10]), (10, [2, 3, 6, 7, 10, 57]), (11, [7, 10, 59]), (12, [7, 10]), (13, [4, 5]), (14, [4, 5])]), (22, [(0, [2, 3]), (1, [2, 3, 10]), (2, [4]), (3, [5, 6]), (4, [5, 6, 27]), (5, [4]), (6, [4])]), (23, [(0, [2, 3]), (1, [2, 3, 14]), (2, [4]), (3, [5, 6]), (4, [5, 6, 21]), (5, [4]), (6, [5, 6, 25]), (7, [4]), (8, [4])]), (24, [(0, [2, 3]), (1, [2, 3, 10]), (2, [4]), (3, [2, 3, 12, 13, 14]), (4, [2, 3, 12, 13, 14, 15]), (5, [2, 3, 6, 12, 13, 14]), (6, [2, 3, 6, 12, 13, 14, 35]), (7, [4]), (8, [2, 3, 12, 13, 14]), (9, [4])]), (25, [(0, [2, 3]), (1, [2, 3, 19]), (2, [4]), (3, [2, 3, 5]), (4, [2, 3, 5, 24]), (5, [2, 3, 5]), (6, [2, 3, 5, 6]), (7, [2, 3, 5, 6, 7, 8]), (8, [2, 3, 5, 6, 7, 8, 9]), (9, [2, 3, 5, 6, 7, 8, 9, 46]), (10, [2, 3, 5, 6, 7, 8, 9]), (11, [2, 3, 5, 6, 7, 8, 9, 10, 11]), (12, [2, 3, 5, 6, 7, 8, 9, 79]), (13, [4]), (14, [4])]), (26, [(0, [2, 3]), (1, [2, 3, 5]), (2, [4])]), (27, [(0, [2, 3]), (1, [2, 3, 5]), (2, [4])]), (28, [(0, [2, 3]), (1, [4])]), (29, [(0, [2, 3]), (1, [4])]), (33, [(0, [1, 2]), (1, [1, 2, 6]), (2, [1, 2, 6, 11]), (3, [1, 2, 6]), (4, [1, 2, 6, 21]), (5, [4, 5]), (6, [4, 5])]), (34, [(0, [1, 2, 3, 6]), (1, [1, 2, 3, 6, 11]), (2, [6, 7]), (3, [1, 2, 3, 6, 29]), (4, [6, 7]), (5, [1, 2, 3, 6, 36]), (6, [6, 7]), (7, [1, 2, 3, 6, 8]), (8, [3, 6, 8, 9]), (9, [3, 6, 8, 9]), (10, [3, 6, 8, 9, 10]), (11, [3, 6, 10]), (12, [3, 6, 10, 76]), (13, [6, 7]), (14, [6, 7])]), (40, [(0, [0]), (1, [0, 4]), (2, [0, 4, 9]), (3, [2, 3]), (4, [2, 3])]), (42, [(0, [1]), (1, [1, 29]), (2, [2]), (3, [1, 3]), (4, [1, 3, 4]), (5, [1, 3, 4, 5]), (6, [1, 3, 4, 5, 38]), (7, [1, 3, 4, 5]), (8, [1, 3, 4, 5, 6]), (9, [1, 3, 4, 5, 6, 85]), (10, [2]), (11, [1, 3, 4, 5, 6, 89]), (12, [1, 3, 4, 5, 6]), (13, [1, 3, 4, 5, 6]), (14, [1, 3, 4, 5, 7, 8]), (15, [1, 3, 4, 5, 7, 105]), (16, [1, 3, 4, 5, 9, 10]), (17, [1, 3, 4, 5, 133]), (18, [2]), (19, [1, 4, 11]), (20, [1, 4, 11, 138]), (21, [1, 4, 11]), (22, [1, 4, 11, 170]), (23, [2]), (24, [2])]), (47, [(0, [1, 2]), (1, [1, 9, 10, 11]), (2, [1, 9, 10, 11, 12]), (3, [1, 7, 9, 10, 11]), (4, [1, 7, 9, 10, 11, 18]), (5, [4, 5]), (6, [1, 9, 10, 11]), (7, [4, 5])]), (48, [(0, [1]), (1, [1, 17]), (2, [2]), (3, [1, 3, 4]), (4, [1, 3, 4, 5]), (5, [1, 3, 4, 5, 26]), (6, [2]), (7, [1, 3, 4, 5, 6]), (8, [1, 3, 4, 5, 6, 88]), (9, [2]), (10, [1, 3, 4, 5, 6, 92]), (11, [1, 3, 4, 5, 6]), (12, [1, 3, 4, 5, 6]), (13, [1, 3, 4, 5, 6, 7]), (14, [1, 3, 4, 5, 132]), (15, [2]), (16, [1, 3, 4, 5])]), (54, [(0, [1, 2]), (1, [2, 5, 6]), (2, [2, 5, 17]), (3, [4]), (4, [2, 5, 7]), (5, [5, 7, 19, 20, 21]), (6, [5, 7, 19, 20, 21, 22]), (7, [5, 7, 9, 19, 20, 21]), (8, [5, 7, 9, 19, 20, 21, 28]), (9, [5, 7, 19, 20, 21]), (10, [5, 7, 19, 20, 21]), (11, [4])]), (59, [(0, [0, 1]), (1, [5, 6]), (2, [5, 6, 7]), (3, [5, 6, 7, 21]), (4, [5, 6, 7]), (5, [5, 6, 7, 32]), (6, [4]), (7, [4])]), (61, [(0, [1]), (1, [1, 3]), (2, [1, 3, 8]), (3, [1, 3]), (4, [1, 3, 18]), (5, [2]), (6, [2])]), (62, [(0, [2, 3]), (1, [4])]), (63, [(0, [2, 3]), (1, [2, 3, 10]), (2, [4]), (3, [2, 3, 5]), (4, [2, 3, 5, 17]), (5, [4]), (6, [2, 3, 19]), (7, [4]), (8, [2, 3, 25]), (9, [4]), (10, [2, 3, 32]), (11, [4]), (12, [38]), (13, [4]), (14, [4])]), (64, [(0, [2, 3]), (1, [2, 3, 10]), (2, [4]), (3, [2, 3, 5]), (4, [2, 3, 5, 17]), (5, [4]), (6, [2, 3, 19]), (7, [4]), (8, [2, 3, 25]), (9, [4]), (10, [2, 3, 32]), (11, [4]), (12, [38]), (13, [4]), (14, [4])]), (65, [(0, [2, 3]), (1, [2, 3, 5]), (2, [2, 3, 5, 11]), (3, [4]), (4, [2, 3, 5, 6]), (5, [2, 3, 5, 6, 21]), (6, [4]), (7, [2, 3, 5])]), (66, [(0, [0, 1]), (1, [4])]), (67, [(0, [2, 3]), (1, [2, 3, 5]), (2, [2, 3, 5, 12]), (3, [2, 3, 5]), (4, [2, 3, 5, 7]), (5, [2, 3, 5, 27]), (6, [4]), (7, [4])]), (68, [(0, [1, 2]), (1, [6]), (2, [4])]), (69, [(0, [0, 1]), (1, [0, 1, 10]), (2, [4]), (3, [0, 1, 12, 13]), (4, [0, 1, 12, 13, 14]), (5, [0, 1, 5, 12, 13]), (6, [0, 1, 12, 13, 24]), (7, [4]), (8, [0, 1, 12, 13]), (9, [4])]), (70, [(0, [2, 3, 4]), (1, [6])]), (73, [(0, [1]), (1, [1, 10]), (2, [2]), (3, [1, 3]), (4, [1, 3, 4]), (5, [1, 3, 4, 5]), (6, [1, 3, 4, 5, 32]), (7, [1, 3, 4, 5, 32, 33]), (8, [1, 3, 4, 5, 32, 33]), (9, [2]), (10, [1, 3, 4, 5, 32, 43]), (11, [2]), (12, [1, 3, 4, 5, 32, 53]), (13, [1, 3, 5, 6]), (14, [1, 3, 5, 6, 59]), (15, [1, 3, 5, 6]), (16, [1, 3, 5, 6, 66]), (17, [2]), (18, [2]), (19, [1, 3, 4, 32, 83]), (20, [1, 3, 4, 83]), (21, [2]), (22, [2])]), (74, [(0, [0, 1, 2]), (1, [0, 1, 2, 7]), (2, [0, 1, 2, 7, 8]), (3, [0, 1, 2, 7, 8, 14]), (4, [0, 1, 2, 7, 8]), (5, [0, 1, 2, 7, 8, 9, 10]), (6, [0, 1, 2, 7, 8, 9, 10, 40]), (7, [0, 1, 2, 7, 8]), (8, [6])]), (75, [(0, [0]), (1, [0, 3]), (2, [0, 3, 4]), (3, [0, 3, 4, 9]), (4, [0, 3, 4]), (5, [0, 3, 4, 5]), (6, [0, 3, 4, 5, 36]), (7, [0, 3, 4]), (8, [0, 3, 4]), (9, [2])]), (76, [(0, [1]), (1, [1, 3]), (2, [1, 3, 4]), (3, [1, 3, 4, 9]), (4, [1, 3, 4]), (5, [1, 3, 4]), (6, [2])]), (81, [(0, [0, 1]), (1, [0, 1, 5]), (2, [0, 1, 5, 6]), (3, [0, 1, 6, 11]), (4, [12]), (5, [4]), (6, [4]), (7, [0, 1, 13]), (8, [4]), (9, [0, 1, 16]), (10, [4]), (11, [19]), (12, [4]), (13, [4])]), (87, [(0, [0]), (1, [0, 9]), (2, [2]), (3, [2])]), (88, [(0, [0]), (1, [0, 6]), (2, [2]), (3, [0, 3]), (4, [0, 3, 4]), (5, [0, 3, 4, 12]), (6, [0, 3, 4]), (7, [0, 3, 4, 20]), (8, [2]), (9, [2])]), (91, [(0, [2, 3]), (1, [4])]), (94, [(0, [0]), (1, [4, 6]), (2, [2, 3])]), (95, [(0, [0, 1]), (1, [4])]), (96, [(0, [1]), (1, [2])]), (97, [(0, [1]), (1, [1, 6]), (2, [2]), (3, [1, 8]), (4, [1, 8, 9]), (5, [1, 8, 9]), (6, [1, 8, 9]), (7, [1, 8, 9]), (8, [1, 8, 9]), (9, [1, 9]), (10, [2]), (11, [2])]), (98, [(0, [0]), (1, [0, 6]), (2, [2]), (3, [0, 3]), (4, [3, 16]), (5, [2]), (6, [3, 4]), (7, [3, 4, 20]), (8, [2]), (9, [3, 4, 26]), (10, [2]), (11, [3, 4])]), (99, [(0, [1, 2]), (1, [1, 2, 5, 6]), (2, [1, 2, 5, 20]), (3, [4]), (4, [2, 7, 8]), (5, [4])]), (105, [(0, [1]), (1, [1, 3, 4]), (2, [1, 3, 4, 9]), (3, [1, 3, 4]), (4, [1, 3, 4]), (5, [2])]), (106, [(0, [0]), (1, [0, 3]), (2, [0, 3, 7]), (3, [0, 3]), (4, [0, 3, 19]), (5, [2]), (6, [2])]), (107, [(0, [1]), (1, [1, 3]), (2, [1, 3, 8]), (3, [1, 3]), (4, [1, 3, 28]), (5, [2]), (6, [2])]), (108, [(0, [2, 3]), (1, [2, 3, 5]), (2, [4]), (3, [2, 3, 11]), (4, [4]), (5, [2, 3, 17]), (6, [4]), (7, [2, 3, 23]), (8, [4]), (9, [2, 3, 29]), (10, [4]), (11, [36]), (12, [4]), (13, [4])]), (109, [(0, [0, 1]), (1, [0, 1, 10]), (2, [4]), (3, [0, 1, 12, 13]), (4, [0, 1, 12, 13, 14]), (5, [0, 1, 5, 12, 13]), (6, [0, 1, 12, 13, 24]), (7, [4]), (8, [0, 1, 12, 13]), (9, [4])]), (110, [(0, [2, 3]), (1, [2, 3, 5]), (2, [4]), (3, [2, 3, 11]), (4, [4]), (5, [2, 3, 17]), (6, [4]), (7, [2, 3, 23]), (8, [4]), (9, [2, 3, 29]), (10, [4]), (11, [36]), (12, [4]), (13, [4])]), (111, [(0, [0, 1]), (1, [0, 1, 10]), (2, [4]), (3, [0, 1, 5]), (4, [0, 1, 5, 14]), (5, [0, 1, 5]), (6, [0, 1, 5, 25]), (7, [4]), (8, [4])]), (112, [(0, [0, 1]), (1, [4])]), (113, [(0, [0, 1]), (1, [0, 1, 5]), (2, [0, 1, 5, 12]), (3, [4]), (4, [0, 1, 5, 6]), (5, [0, 1, 5, 6, 19]), (6, [0, 1, 5, 6]), (7, [0, 1, 5, 6, 7]), (8, [0, 1, 5, 6, 7, 29]), (9, [0, 1, 5, 6]), (10, [0, 1, 5, 6]), (11, [0, 5]), (12, [4])]), (114, [(0, [0, 1]), (1, [3])]), (115, [(0, [1]), (1, [1, 3]), (2, [1, 3, 8]), (3, [1, 3]), (4, [1, 3, 37]), (5, [2]), (6, [2])]), (116, [(0, [1]), (1, [1, 3]), (2, [1, 3, 8]), (3, [1, 3]), (4, [1, 3, 36]), (5, [2]), (6, [2])]), (118, [(0, [0]), (1, [2])]), (119, [(0, [0]), (1, [0, 9]), (2, [2]), (3, [2])]), (120, [(0, [0]), (1, [0, 3]), (2, [0, 3, 4]), (3, [0, 3, 4, 5]), (4, [0, 3, 4, 5, 9]), (5, [0, 3, 4, 5]), (6, [0, 3, 4, 5, 21]), (7, [0, 3, 5]), (8, [0, 3, 4, 5]), (9, [2])]), (125, [(0, [0]), (1, [5]), (2, [5, 11]), (3, [2, 3, 4]), (4, [5, 6]), (5, [2, 3, 4])]), (126, [(0, [0, 1]), (1, [0, 1, 7, 8]), (2, [0, 1, 7, 8, 9]), (3, [0, 1, 5, 7, 8]), (4, [0, 1, 5, 7, 8, 16]), (5, [4]), (6, [0, 1, 7, 8]), (7, [4])]), (127, [(0, [1]), (1, [1, 36]), (2, [2]), (3, [1, 3]), (4, [1, 3, 41]), (5, [1, 3, 67]), (6, [2]), (7, [1, 3]), (8, [2])]), (128, [(0, [1]), (1, [2])]), (129, [(0, [1]), (1, [2])]), (130, [(0, [1]), (1, [1, 10]), (2, [2]), (3, [2])]), (132, [(0, [0]), (1, [2])]), (133, [(0, [0, 1, 2]), (1, [0, 1, 2, 8]), (2, [0, 1, 2, 8, 9, 10]), (3, [0, 1, 2, 8, 9, 10, 17]), (4, [0, 1, 2, 8, 9, 10, 11]), (5, [0, 1, 2, 8, 9, 10, 11, 31]), (6, [0, 1, 2, 8, 9, 10]), (7, [0, 1, 2, 8, 9, 10]), (8, [6, 7])]), (134, [(0, [1, 2]), (1, [4])]), (135, [(0, [0, 1]), (1, [0, 1, 10]), (2, [4]), (3, [0, 1, 12, 13]), (4, [0, 1, 12, 13, 14]), (5, [0, 1, 5, 12, 13]), (6, [0, 1, 12, 13, 24]), (7, [4]), (8, [0, 1, 12, 13]), (9, [4])]), (136, [(0, [0, 1]), (1, [4])]), (137, [(0, [0, 1]), (1, [0, 1, 10]), (2, [4]), (3, [0, 1, 5]), (4, [0, 1, 5, 14]), (5, [0, 1, 5]), (6, [0, 1, 5, 25]), (7, [4]), (8, [4])]), (138, [(0, [0, 1]), (1, [0, 1, 10]), (2, [4]), (3, [0, 1, 5]), (4, [0, 1, 5, 14]), (5, [0, 1, 5]), (6, [0, 1, 5, 25]), (7, [4]), (8, [4])]), (139, [(0, [0, 1]), (1, [0, 1, 9, 10, 11]), (2, [0, 1, 9, 10, 11, 12]), (3, [0, 1, 5, 6, 9, 10, 11]), (4, [0, 1, 5, 6, 9, 10, 11, 19]), (5, [4]), (6, [0, 1, 6, 7, 9, 10, 11]), (7, [0, 1, 8, 9, 10, 11]), (8, [0, 1, 8, 9, 10, 11, 28]), (9, [4]), (10, [0, 1, 9, 10, 11]), (11, [35]), (12, [4]), (13, [4])]), (140, [(0, [0, 1]), (1, [0, 1, 7, 8]), (2, [0, 1, 7, 8, 9]), (3, [0, 1, 5, 7, 8]), (4, [0, 1, 5, 7, 8, 16]), (5, [4]), (6, [0, 1, 7, 8]), (7, [4])]), (141, [(0, [1]), (1, [2])]), (142, [(0, [0]), (1, [0, 3]), (2, [0, 3, 7]), (3, [0, 3]), (4, [0, 3, 32]), (5, [2]), (6, [2])]), (143, [(0, [0, 1]), (1, [0, 1, 12]), (2, [4]), (3, [0, 1, 5]), (4, [0, 1, 5, 6]), (5, [0, 1, 5, 6, 16]), (6, [0, 1, 5, 6]), (7, [0, 1, 6, 33]), (8, [4]), (9, [0, 1, 5, 6]), (10, [4])]), (144, [(0, [1]), (1, [1, 3]), (2, [1, 3, 4]), (3, [1, 3, 4, 9]), (4, [1, 3, 4]), (5, [1, 3, 4]), (6, [2])]), (153, [(0, [1]), (1, [2])]), (154, [(0, [2, 3]), (1, [4])]), (155, [(0, [0]), (1, [0, 3]), (2, [0, 3, 7]), (3, [0, 3, 30]), (4, [2]), (5, [0, 3]), (6, [2])]), (156, [(0, [0, 1]), (1, [0, 1, 13]), (2, [4]), (3, [0, 1, 5, 6]), (4, [0, 1, 5, 6, 17]), (5, [4]), (6, [0, 1, 5, 6, 7]), (7, [0, 1, 5, 7, 33]), (8, [0, 1, 5, 6]), (9, [0, 1, 5, 6]), (10, [4])]), (157, [(0, [1]), (1, [1, 3]), (2, [3, 7, 8, 9]), (3, [3, 7, 8, 9, 10]), (4, [3, 5, 7, 8, 9]), (5, [3, 7, 8, 9]), (6, [3, 7, 8, 9]), (7, [2])]), (158, [(0, [0, 1]), (1, [4])]), (159, [(0, [1]), (1, [2])]), (163, [(0, [0, 1]), (1, [0, 1, 10]), (2, [4]), (3, [0, 1, 12, 13]), (4, [0, 1, 12, 13, 14]), (5, [0, 1, 5, 12, 13]), (6, [0, 1, 12, 13, 24]), (7, [4]), (8, [0, 1, 12, 13]), (9, [4])]), (164, [(0, [0, 1]), (1, [0, 1, 5]), (2, [0, 1, 5, 6]), (3, [0, 1, 6, 11]), (4, [12]), (5, [4]), (6, [4]), (7, [0, 1, 13]), (8, [4]), (9, [0, 1, 16]), (10, [4]), (11, [19]), (12, [4]), (13, [4])]), (165, [(0, [1]), (1, [2])]), (166, [(0, [2, 3]), (1, [4])]), (167, [(0, [0]), (1, [0, 3]), (2, [0, 3, 7]), (3, [0, 3]), (4, [0, 3, 15]), (5, [2]), (6, [2])]), (168, [(0, [0]), (1, [2])]), (169, [(0, [0]), (1, [2])]), (170, [(0, [0, 1]), (1, [4])]), (176, [(0, [1]), (1, [2])]), (177, [(0, [2, 3]), (1, [4])]), (178, [(0, [0]), (1, [2])]), (179, [(0, [0]), (1, [2])]), (180, [(0, [0]), (1, [2])]), (181, [(0, [0, 1]), (1, [4])]), (182, [(0, [0, 1]), (1, [0, 1, 7, 8]), (2, [0, 1, 7, 8, 9]), (3, [0, 1, 5, 7, 8]), (4, [0, 1, 5, 7, 8, 16]), (5, [4]), (6, [0, 1, 7, 8]), (7, [4])]), (187, [(0, [0]), (1, [2])]), (188, [(0, [0]), (1, [0, 3]), (2, [2]), (3, [0, 6]), (4, [2]), (5, [2])]), (189, [(0, [0]), (1, [2])]), (194, [(0, [0]), (1, [0, 3]), (2, [3, 6, 7, 8]), (3, [3, 6, 7, 8, 9]), (4, [3, 5, 6, 7, 8]), (5, [3, 5, 6, 7, 8, 14]), (6, [2]), (7, [3, 6, 7, 8]), (8, [2])]), (195, [(0, [0]), (1, [0, 3]), (2, [2]), (3, [0, 7]), (4, [2]), (5, [2])]), (196, [(0, [0]), (1, [2])])]
def pairT : List (Nat × List (Nat × List (Nat × Nat))) := [(34, [(11, [(1, 6), (2, 6), (3, 6), (4, 6)])])]
noncomputable def info : Info where
  ty := lk tyT
  by_ := fun t => (lk byT t).getD 0
  fn := lk fnT
  ps := fun f => (lk psT f).getD []
  rs := fun f => (lk rsT f).getD []
  live := fun f r => (lk ((lk liveT f).getD []) r).getD []
  pairs := fun f r => (lk ((lk pairT f).getD []) r).getD []
  eqs := fun t => hasN [88, 44, 84, 46, 65] t

end Go.Proofs.YteiefdnhngfojaaGreatDoor.VmI
set_option linter.unusedVariables false
namespace Go.Proofs.YteiefdnhngfojaaGreatDoor.VmI
open Go Go.Proofs.YteiefdnhngfojaaGreatDoor.Vm
def splitE : (a r : Ty) → a.T → Option r.T
  | .pair .str .str, .list _ .str, (s, t) => if t.size = 1 then if s.size < 4294967281 then some (Lib.splitB t 0 (Lib.countB s t) s) else none else none
  | _, _, _ => none
def joinE : (a r : Ty) → a.T → Option r.T
  | .pair (.list _ .str) .str, .str, (l, t) => if t.size = 1 then if (Lib.join (l.map (·.data.toList)) t.data.toList).length ≤ 140737488355328 then some ⟨(Lib.join (l.map (·.data.toList)) t.data.toList).toArray⟩ else none else none
  | _, _, _ => none
def zeroB : ByteArray := ⟨#[0]⟩
def containsE : (a r : Ty) → a.T → Option r.T
  | .pair .str .str, .bool, (s, t) => if t = zeroB then some (decide (0 ≤ Lib.indexByte s.data.toList 0)) else none
  | _, _, _ => none
def seps : ByteArray := ⟨#[47, 0]⟩
def anyE : (a r : Ty) → a.T → Option r.T
  | .pair .str .str, .bool, (s, t) => if t = seps then if s.size < 4294967281 then some (Lib.containsAny s.data.toList [47, 0]) else none else none
  | _, _, _ => none
def ext (f : FuncId) (a r : Ty) (x : a.T) : Option r.T :=
  bif Nat.beq f 131 then splitE a r x else bif Nat.beq f 152 then joinE a r x else bif Nat.beq f 160 then containsE a r x else bif Nat.beq f 162 then anyE a r x else none
end Go.Proofs.YteiefdnhngfojaaGreatDoor.VmI
set_option linter.unusedVariables false
set_option maxRecDepth 100000
namespace Go.Proofs.YteiefdnhngfojaaGreatDoor.VmI
open Go Go.Proofs Go.Proofs.YteiefdnhngfojaaGreatDoor.Vm
theorem infoOk : InfoOk Tryz.prog info := by
  refine ⟨fun id t h => chkAll_lk (show chkAll Tryz.prog info.by_ tyT = true by kernel_rfl) h, fun t h => ?_⟩
  have hm : t = 88 ∨ t = 44 ∨ t = 84 ∨ t = 46 ∨ t = 65 := by
    have := (hasN_iff _ _).1 (show hasN [88, 44, 84, 46, 65] t = true from h)
    simpa using this
  rcases hm with rfl | rfl | rfl | rfl | rfl <;> exact ⟨by kernel_rfl, by kernel_rfl⟩
/-- What holds of all entries of a table holds of what is found. -/
theorem lk_all {α : Type} {p : Nat → α → Prop} : ∀ {l : List (Nat × α)}, (∀ x ∈ l, p x.1 x.2) → ∀ {k : Nat} {y : α}, lk l k = some y → p k y
  | [], _, _, _, h => absurd h (by simp [lk])
  | (a, b) :: l, hp, k, y, h => by
    rw [lk_cons] at h
    by_cases e : a = k
    · rw [if_pos e] at h
      obtain rfl := Option.some.inj h
      rw [← e]; exact hp (a, b) (by simp)
    · rw [if_neg e] at h
      exact lk_all (fun x hx => hp x (List.mem_cons_of_mem _ hx)) h
def InP (f : Nat) (fn : Func) : Prop := Tryz.prog.funcs[f]? = some fn ∧ ∀ args w, (callFunc f args).run Tryz.prog w = .ok (.enter f args) w
noncomputable def codeB (f : Nat) (fn : Func) : Bool := match fn.body with
  | some b => codeOk (fun id ops => statOk info ops (info.pairs f id)) b
  | none => true
theorem all_cons {α : Type} {p : Nat → α → Prop} {a : Nat} {b : α} {l : List (Nat × α)} (h1 : p a b) (h2 : ∀ x ∈ l, p x.1 x.2) : ∀ x ∈ (a, b) :: l, p x.1 x.2 := fun x hx => by
  rcases List.mem_cons.1 hx with rfl | hx
  · exact h1
  · exact h2 x hx
theorem all_nil {α : Type} {p : Nat → α → Prop} : ∀ x ∈ ([] : List (Nat × α)), p x.1 x.2 := fun _ h => absurd h (by simp)

theorem c3 : codeB 3 Tryz.f3 = true := by kernel_rfl
theorem c7 : codeB 7 Tryz.f7 = true := by kernel_rfl
theorem c18 : codeB 18 Tryz.f18 = true := by kernel_rfl
theorem c19 : codeB 19 Tryz.f19 = true := by kernel_rfl
theorem c20 : codeB 20 Tryz.f20 = true := by kernel_rfl
theorem c21 : codeB 21 Tryz.f21 = true := by kernel_rfl
theorem c22 : codeB 22 Tryz.f22 = true := by kernel_rfl
theorem c23 : codeB 23 Tryz.f23 = true := by kernel_rfl
theorem c24 : codeB 24 Tryz.f24 = true := by kernel_rfl
theorem c25 : codeB 25 Tryz.f25 = true := by kernel_rfl
theorem c26 : codeB 26 Tryz.f26 = true := by kernel_rfl
theorem c27 : codeB 27 Tryz.f27 = true := by kernel_rfl
theorem c28 : codeB 28 Tryz.f28 = true := by kernel_rfl
theorem c29 : codeB 29 Tryz.f29 = true := by kernel_rfl
theorem c33 : codeB 33 Tryz.f33 = true := by kernel_rfl
theorem c34 : codeB 34 Tryz.f34 = true := by kernel_rfl
theorem c40 : codeB 40 Tryz.f40 = true := by kernel_rfl
theorem c42 : codeB 42 Tryz.f42 = true := by kernel_rfl
theorem c47 : codeB 47 Tryz.f47 = true := by kernel_rfl
theorem c48 : codeB 48 Tryz.f48 = true := by kernel_rfl
theorem c54 : codeB 54 Tryz.f54 = true := by kernel_rfl
theorem c59 : codeB 59 Tryz.f59 = true := by kernel_rfl
theorem c61 : codeB 61 Tryz.f61 = true := by kernel_rfl
theorem c62 : codeB 62 Tryz.f62 = true := by kernel_rfl
theorem c63 : codeB 63 Tryz.f63 = true := by kernel_rfl
theorem c64 : codeB 64 Tryz.f64 = true := by kernel_rfl
theorem c65 : codeB 65 Tryz.f65 = true := by kernel_rfl
theorem c66 : codeB 66 Tryz.f66 = true := by kernel_rfl
theorem c67 : codeB 67 Tryz.f67 = true := by kernel_rfl
theorem c68 : codeB 68 Tryz.f68 = true := by kernel_rfl
theorem c69 : codeB 69 Tryz.f69 = true := by kernel_rfl
theorem c70 : codeB 70 Tryz.f70 = true := by kernel_rfl
theorem c73 : codeB 73 Tryz.f73 = true := by kernel_rfl
theorem c74 : codeB 74 Tryz.f74 = true := by kernel_rfl
theorem c75 : codeB 75 Tryz.f75 = true := by kernel_rfl
theorem c76 : codeB 76 Tryz.f76 = true := by kernel_rfl
theorem c81 : codeB 81 Tryz.f81 = true := by kernel_rfl
theorem c87 : codeB 87 Tryz.f87 = true := by kernel_rfl
theorem c88 : codeB 88 Tryz.f88 = true := by kernel_rfl
theorem c91 : codeB 91 Tryz.f91 = true := by kernel_rfl
theorem c94 : codeB 94 Tryz.f94 = true := by kernel_rfl
theorem c95 : codeB 95 Tryz.f95 = true := by kernel_rfl
theorem c96 : codeB 96 Tryz.f96 = true := by kernel_rfl
theorem c97 : codeB 97 Tryz.f97 = true := by kernel_rfl
theorem c98 : codeB 98 Tryz.f98 = true := by kernel_rfl
theorem c99 : codeB 99 Tryz.f99 = true := by kernel_rfl
theorem c105 : codeB 105 Tryz.f105 = true := by kernel_rfl
theorem c106 : codeB 106 Tryz.f106 = true := by kernel_rfl
theorem c107 : codeB 107 Tryz.f107 = true := by kernel_rfl
theorem c108 : codeB 108 Tryz.f108 = true := by kernel_rfl
theorem c109 : codeB 109 Tryz.f109 = true := by kernel_rfl
theorem c110 : codeB 110 Tryz.f110 = true := by kernel_rfl
theorem c111 : codeB 111 Tryz.f111 = true := by kernel_rfl
theorem c112 : codeB 112 Tryz.f112 = true := by kernel_rfl
theorem c113 : codeB 113 Tryz.f113 = true := by kernel_rfl
theorem c114 : codeB 114 Tryz.f114 = true := by kernel_rfl
theorem c115 : codeB 115 Tryz.f115 = true := by kernel_rfl
theorem c116 : codeB 116 Tryz.f116 = true := by kernel_rfl
theorem c118 : codeB 118 Tryz.f118 = true := by kernel_rfl
theorem c119 : codeB 119 Tryz.f119 = true := by kernel_rfl
theorem c120 : codeB 120 Tryz.f120 = true := by kernel_rfl
theorem c125 : codeB 125 Tryz.f125 = true := by kernel_rfl
theorem c126 : codeB 126 Tryz.f126 = true := by kernel_rfl
theorem c127 : codeB 127 Tryz.f127 = true := by kernel_rfl
theorem c128 : codeB 128 Tryz.f128 = true := by kernel_rfl
theorem c129 : codeB 129 Tryz.f129 = true := by kernel_rfl
theorem c130 : codeB 130 Tryz.f130 = true := by kernel_rfl
theorem c132 : codeB 132 Tryz.f132 = true := by kernel_rfl
theorem c133 : codeB 133 Tryz.f133 = true := by kernel_rfl
theorem c134 : codeB 134 Tryz.f134 = true := by kernel_rfl
theorem c135 : codeB 135 Tryz.f135 = true := by kernel_rfl
theorem c136 : codeB 136 Tryz.f136 = true := by kernel_rfl
theorem c137 : codeB 137 Tryz.f137 = true := by kernel_rfl
theorem c138 : codeB 138 Tryz.f138 = true := by kernel_rfl
theorem c139 : codeB 139 Tryz.f139 = true := by kernel_rfl
theorem c140 : codeB 140 Tryz.f140 = true := by kernel_rfl
theorem c141 : codeB 141 Tryz.f141 = true := by kernel_rfl
theorem c142 : codeB 142 Tryz.f142 = true := by kernel_rfl
theorem c143 : codeB 143 Tryz.f143 = true := by kernel_rfl
theorem c144 : codeB 144 Tryz.f144 = true := by kernel_rfl
theorem c153 : codeB 153 Tryz.f153 = true := by kernel_rfl
theorem c154 : codeB 154 Tryz.f154 = true := by kernel_rfl
theorem c155 : codeB 155 Tryz.f155 = true := by kernel_rfl
theorem c156 : codeB 156 Tryz.f156 = true := by kernel_rfl
theorem c157 : codeB 157 Tryz.f157 = true := by kernel_rfl
theorem c158 : codeB 158 Tryz.f158 = true := by kernel_rfl
theorem c159 : codeB 159 Tryz.f159 = true := by kernel_rfl
theorem c163 : codeB 163 Tryz.f163 = true := by kernel_rfl
theorem c164 : codeB 164 Tryz.f164 = true := by kernel_rfl
theorem c165 : codeB 165 Tryz.f165 = true := by kernel_rfl
theorem c166 : codeB 166 Tryz.f166 = true := by kernel_rfl
theorem c167 : codeB 167 Tryz.f167 = true := by kernel_rfl
theorem c168 : codeB 168 Tryz.f168 = true := by kernel_rfl
theorem c169 : codeB 169 Tryz.f169 = true := by kernel_rfl
theorem c170 : codeB 170 Tryz.f170 = true := by kernel_rfl
theorem c176 : codeB 176 Tryz.f176 = true := by kernel_rfl
theorem c177 : codeB 177 Tryz.f177 = true := by kernel_rfl
theorem c178 : codeB 178 Tryz.f178 = true := by kernel_rfl
theorem c179 : codeB 179 Tryz.f179 = true := by kernel_rfl
theorem c180 : codeB 180 Tryz.f180 = true := by kernel_rfl
theorem c181 : codeB 181 Tryz.f181 = true := by kernel_rfl
theorem c182 : codeB 182 Tryz.f182 = true := by kernel_rfl
theorem c187 : codeB 187 Tryz.f187 = true := by kernel_rfl
theorem c188 : codeB 188 Tryz.f188 = true := by kernel_rfl
theorem c189 : codeB 189 Tryz.f189 = true := by kernel_rfl
theorem c194 : codeB 194 Tryz.f194 = true := by kernel_rfl
theorem c195 : codeB 195 Tryz.f195 = true := by kernel_rfl
theorem c196 : codeB 196 Tryz.f196 = true := by kernel_rfl
theorem allIn : ∀ x ∈ fnT, InP x.1 x.2 := (all_cons (p := InP) ⟨Tryz.func3, Tryz.call3⟩ (all_cons (p := InP) ⟨Tryz.func7, Tryz.call7⟩ (all_cons (p := InP) ⟨Tryz.func18, Tryz.call18⟩ (all_cons (p := InP) ⟨Tryz.func19, Tryz.call19⟩ (all_cons (p := InP) ⟨Tryz.func20, Tryz.call20⟩ (all_cons (p := InP) ⟨Tryz.func21, Tryz.call21⟩ (all_cons (p := InP) ⟨Tryz.func22, Tryz.call22⟩ (all_cons (p := InP) ⟨Tryz.func23, Tryz.call23⟩ (all_cons (p := InP) ⟨Tryz.func24, Tryz.call24⟩ (all_cons (p := InP) ⟨Tryz.func25, Tryz.call25⟩ (all_cons (p := InP) ⟨Tryz.func26, Tryz.call26⟩ (all_cons (p := InP) ⟨Tryz.func27, Tryz.call27⟩ (all_cons (p := InP) ⟨Tryz.func28, Tryz.call28⟩ (all_cons (p := InP) ⟨Tryz.func29, Tryz.call29⟩ (all_cons (p := InP) ⟨Tryz.func33, Tryz.call33⟩ (all_cons (p := InP) ⟨Tryz.func34, Tryz.call34⟩ (all_cons (p := InP) ⟨Tryz.func40, Tryz.call40⟩ (all_cons (p := InP) ⟨Tryz.func42, Tryz.call42⟩ (all_cons (p := InP) ⟨Tryz.func47, Tryz.call47⟩ (all_cons (p := InP) ⟨Tryz.func48, Tryz.call48⟩ (all_cons (p := InP) ⟨Tryz.func54, Tryz.call54⟩ (all_cons (p := InP) ⟨Tryz.func59, Tryz.call59⟩ (all_cons (p := InP) ⟨Tryz.func61, Tryz.call61⟩ (all_cons (p := InP) ⟨Tryz.func62, Tryz.call62⟩ (all_cons (p := InP) ⟨Tryz.func63, Tryz.call63⟩ (all_cons (p := InP) ⟨Tryz.func64, Tryz.call64⟩ (all_cons (p := InP) ⟨Tryz.func65, Tryz.call65⟩ (all_cons (p := InP) ⟨Tryz.func66, Tryz.call66⟩ (all_cons (p := InP) ⟨Tryz.func67, Tryz.call67⟩ (all_cons (p := InP) ⟨Tryz.func68, Tryz.call68⟩ (all_cons (p := InP) ⟨Tryz.func69, Tryz.call69⟩ (all_cons (p := InP) ⟨Tryz.func70, Tryz.call70⟩ (all_cons (p := InP) ⟨Tryz.func73, Tryz.call73⟩ (all_cons (p := InP) ⟨Tryz.func74, Tryz.call74⟩ (all_cons (p := InP) ⟨Tryz.func75, Tryz.call75⟩ (all_cons (p := InP) ⟨Tryz.func76, Tryz.call76⟩ (all_cons (p := InP) ⟨Tryz.func81, Tryz.call81⟩ (all_cons (p := InP) ⟨Tryz.func87, Tryz.call87⟩ (all_cons (p := InP) ⟨Tryz.func88, Tryz.call88⟩ (all_cons (p := InP) ⟨Tryz.func91, Tryz.call91⟩ (all_cons (p := InP) ⟨Tryz.func94, Tryz.call94⟩ (all_cons (p := InP) ⟨Tryz.func95, Tryz.call95⟩ (all_cons (p := InP) ⟨Tryz.func96, Tryz.call96⟩ (all_cons (p := InP) ⟨Tryz.func97, Tryz.call97⟩ (all_cons (p := InP) ⟨Tryz.func98, Tryz.call98⟩ (all_cons (p := InP) ⟨Tryz.func99, Tryz.call99⟩ (all_cons (p := InP) ⟨Tryz.func105, Tryz.call105⟩ (all_cons (p := InP) ⟨Tryz.func106, Tryz.call106⟩ (all_cons (p := InP) ⟨Tryz.func107, Tryz.call107⟩ (all_cons (p := InP) ⟨Tryz.func108, Tryz.call108⟩ (all_cons (p := InP) ⟨Tryz.func109, Tryz.call109⟩ (all_cons (p := InP) ⟨Tryz.func110, Tryz.call110⟩ (all_cons (p := InP) ⟨Tryz.func111, Tryz.call111⟩ (all_cons (p := InP) ⟨Tryz.func112, Tryz.call112⟩ (all_cons (p := InP) ⟨Tryz.func113, Tryz.call113⟩ (all_cons (p := InP) ⟨Tryz.func114, Tryz.call114⟩ (all_cons (p := InP) ⟨Tryz.func115, Tryz.call115⟩ (all_cons (p := InP) ⟨Tryz.func116, Tryz.call116⟩ (all_cons (p := InP) ⟨Tryz.func118, Tryz.call118⟩ (all_cons (p := InP) ⟨Tryz.func119, Tryz.call119⟩ (all_cons (p := InP) ⟨Tryz.func120, Tryz.call120⟩ (all_cons (p := InP) ⟨Tryz.func125, Tryz.call125⟩ (all_cons (p := InP) ⟨Tryz.func126, Tryz.call126⟩ (all_cons (p := InP) ⟨Tryz.func127, Tryz.call127⟩ (all_cons (p := InP) ⟨Tryz.func128, Tryz.call128⟩ (all_cons (p := InP) ⟨Tryz.func129, Tryz.call129⟩ (all_cons (p := InP) ⟨Tryz.func130, Tryz.call130⟩ (all_cons (p := InP) ⟨Tryz.func132, Tryz.call132⟩ (all_cons (p := InP) ⟨Tryz.func133, Tryz.call133⟩ (all_cons (p := InP) ⟨Tryz.func134, Tryz.call134⟩ (all_cons (p := InP) ⟨Tryz.func135, Tryz.call135⟩ (all_cons (p := InP) ⟨Tryz.func136, Tryz.call136⟩ (all_cons (p := InP) ⟨Tryz.func137, Tryz.call137⟩ (all_cons (p := InP) ⟨Tryz.func138, Tryz.call138⟩ (all_cons (p := InP) ⟨Tryz.func139, Tryz.call139⟩ (all_cons (p := InP) ⟨Tryz.func140, Tryz.call140⟩ (all_cons (p := InP) ⟨Tryz.func141, Tryz.call141⟩ (all_cons (p := InP) ⟨Tryz.func142, Tryz.call142⟩ (all_cons (p := InP) ⟨Tryz.func143, Tryz.call143⟩ (all_cons (p := InP) ⟨Tryz.func144, Tryz.call144⟩ (all_cons (p := InP) ⟨Tryz.func153, Tryz.call153⟩ (all_cons (p := InP) ⟨Tryz.func154, Tryz.call154⟩ (all_cons (p := InP) ⟨Tryz.func155, Tryz.call155⟩ (all_cons (p := InP) ⟨Tryz.func156, Tryz.call156⟩ (all_cons (p := InP) ⟨Tryz.func157, Tryz.call157⟩ (all_cons (p := InP) ⟨Tryz.func158, Tryz.call158⟩ (all_cons (p := InP) ⟨Tryz.func159, Tryz.call159⟩ (all_cons (p := InP) ⟨Tryz.func163, Tryz.call163⟩ (all_cons (p := InP) ⟨Tryz.func164, Tryz.call164⟩ (all_cons (p := InP) ⟨Tryz.func165, Tryz.call165⟩ (all_cons (p := InP) ⟨Tryz.func166, Tryz.call166⟩ (all_cons (p := InP) ⟨Tryz.func167, Tryz.call167⟩ (all_cons (p := InP) ⟨Tryz.func168, Tryz.call168⟩ (all_cons (p := InP) ⟨Tryz.func169, Tryz.call169⟩ (all_cons (p := InP) ⟨Tryz.func170, Tryz.call170⟩ (all_cons (p := InP) ⟨Tryz.func176, Tryz.call176⟩ (all_cons (p := InP) ⟨Tryz.func177, Tryz.call177⟩ (all_cons (p := InP) ⟨Tryz.func178, Tryz.call178⟩ (all_cons (p := InP) ⟨Tryz.func179, Tryz.call179⟩ (all_cons (p := InP) ⟨Tryz.func180, Tryz.call180⟩ (all_cons (p := InP) ⟨Tryz.func181, Tryz.call181⟩ (all_cons (p := InP) ⟨Tryz.func182, Tryz.call182⟩ (all_cons (p := InP) ⟨Tryz.func187, Tryz.call187⟩ (all_cons (p := InP) ⟨Tryz.func188, Tryz.call188⟩ (all_cons (p := InP) ⟨Tryz.func189, Tryz.call189⟩ (all_cons (p := InP) ⟨Tryz.func194, Tryz.call194⟩ (all_cons (p := InP) ⟨Tryz.func195, Tryz.call195⟩ (all_cons (p := InP) ⟨Tryz.func196, Tryz.call196⟩ (all_nil (p := InP))))))))))))))))))))))))))))))))))))))))))))))))))))))))))))))))))))))))))))))))))))))))))))))))))))))))))))))
theorem allCode : ∀ x ∈ fnT, codeB x.1 x.2 = true := (all_cons (p := fun f fn => codeB f fn = true) c3 (all_cons (p := fun f fn => codeB f fn = true) c7 (all_cons (p := fun f fn => codeB f fn = true) c18 (all_cons (p := fun f fn => codeB f fn = true) c19 (all_cons (p := fun f fn => codeB f fn = true) c20 (all_cons (p := fun f fn => codeB f fn = true) c21 (all_cons (p := fun f fn => codeB f fn = true) c22 (all_cons (p := fun f fn => codeB f fn = true) c23 (all_cons (p := fun f fn => codeB f fn = true) c24 (all_cons (p := fun f fn => codeB f fn = true) c25 (all_cons (p := fun f fn => codeB f fn = true) c26 (all_cons (p := fun f fn => codeB f fn = true) c27 (all_cons (p := fun f fn => codeB f fn = true) c28 (all_cons (p := fun f fn => codeB f fn = true) c29 (all_cons (p := fun f fn => codeB f fn = true) c33 (all_cons (p := fun f fn => codeB f fn = true) c34 (all_cons (p := fun f fn => codeB f fn = true) c40 (all_cons (p := fun f fn => codeB f fn = true) c42 (all_cons (p := fun f fn => codeB f fn = true) c47 (all_cons (p := fun f fn => codeB f fn = true) c48 (all_cons (p := fun f fn => codeB f fn = true) c54 (all_cons (p := fun f fn => codeB f fn = true) c59 (all_cons (p := fun f fn => codeB f fn = true) c61 (all_cons (p := fun f fn => codeB f fn = true) c62 (all_cons (p := fun f fn => codeB f fn = true) c63 (all_cons (p := fun f fn => codeB f fn = true) c64 (all_cons (p := fun f fn => codeB f fn = true) c65 (all_cons (p := fun f fn => codeB f fn = true) c66 (all_cons (p := fun f fn => codeB f fn = true) c67 (all_cons (p := fun f fn => codeB f fn = true) c68 (all_cons (p := fun f fn => codeB f fn = true) c69 (all_cons (p := fun f fn => codeB f fn = true) c70 (all_cons (p := fun f fn => codeB f fn = true) c73 (all_cons (p := fun f fn => codeB f fn = true) c74 (all_cons (p := fun f fn => codeB f fn = true) c75 (all_cons (p := fun f fn => codeB f fn = true) c76 (all_cons (p := fun f fn => codeB f fn = true) c81 (all_cons (p := fun f fn => codeB f fn = true) c87 (all_cons (p := fun f fn => codeB f fn = true) c88 (all_cons (p := fun f fn => codeB f fn = true) c91 (all_cons (p := fun f fn => codeB f fn = true) c94 (all_cons (p := fun f fn => codeB f fn = true) c95 (all_cons (p := fun f fn => codeB f fn = true) c96 (all_cons (p := fun f fn => codeB f fn = true) c97 (all_cons (p := fun f fn => codeB f fn = true) c98 (all_cons (p := fun f fn => codeB f fn = true) c99 (all_cons (p := fun f fn => codeB f fn = true) c105 (all_cons (p := fun f fn => codeB f fn = true) c106 (all_cons (p := fun f fn => codeB f fn = true) c107 (all_cons (p := fun f fn => codeB f fn = true) c108 (all_cons (p := fun f fn => codeB f fn = true) c109 (all_cons (p := fun f fn => codeB f fn = true) c110 (all_cons (p := fun f fn => codeB f fn = true) c111 (all_cons (p := fun f fn => codeB f fn = true) c112 (all_cons (p := fun f fn => codeB f fn = true) c113 (all_cons (p := fun f fn => codeB f fn = true) c114 (all_cons (p := fun f fn => codeB f fn = true) c115 (all_cons (p := fun f fn => codeB f fn = true) c116 (all_cons (p := fun f fn => codeB f fn = true) c118 (all_cons (p := fun f fn => codeB f fn = true) c119 (all_cons (p := fun f fn => codeB f fn = true) c120 (all_cons (p := fun f fn => codeB f fn = true) c125 (all_cons (p := fun f fn => codeB f fn = true) c126 (all_cons (p := fun f fn => codeB f fn = true) c127 (all_cons (p := fun f fn => codeB f fn = true) c128 (all_cons (p := fun f fn => codeB f fn = true) c129 (all_cons (p := fun f fn => codeB f fn = true) c130 (all_cons (p := fun f fn => codeB f fn = true) c132 (all_cons (p := fun f fn => codeB f fn = true) c133 (all_cons (p := fun f fn => codeB f fn = true) c134 (all_cons (p := fun f fn => codeB f fn = true) c135 (all_cons (p := fun f fn => codeB f fn = true) c136 (all_cons (p := fun f fn => codeB f fn = true) c137 (all_cons (p := fun f fn => codeB f fn = true) c138 (all_cons (p := fun f fn => codeB f fn = true) c139 (all_cons (p := fun f fn => codeB f fn = true) c140 (all_cons (p := fun f fn => codeB f fn = true) c141 (all_cons (p := fun f fn => codeB f fn = true) c142 (all_cons (p := fun f fn => codeB f fn = true) c143 (all_cons (p := fun f fn => codeB f fn = true) c144 (all_cons (p := fun f fn => codeB f fn = true) c153 (all_cons (p := fun f fn => codeB f fn = true) c154 (all_cons (p := fun f fn => codeB f fn = true) c155 (all_cons (p := fun f fn => codeB f fn = true) c156 (all_cons (p := fun f fn => codeB f fn = true) c157 (all_cons (p := fun f fn => codeB f fn = true) c158 (all_cons (p := fun f fn => codeB f fn = true) c159 (all_cons (p := fun f fn => codeB f fn = true) c163 (all_cons (p := fun f fn => codeB f fn = true) c164 (all_cons (p := fun f fn => codeB f fn = true) c165 (all_cons (p := fun f fn => codeB f fn = true) c166 (all_cons (p := fun f fn => codeB f fn = true) c167 (all_cons (p := fun f fn => codeB f fn = true) c168 (all_cons (p := fun f fn => codeB f fn = true) c169 (all_cons (p := fun f fn => codeB f fn = true) c170 (all_cons (p := fun f fn => codeB f fn = true) c176 (all_cons (p := fun f fn => codeB f fn = true) c177 (all_cons (p := fun f fn => codeB f fn = true) c178 (all_cons (p := fun f fn => codeB f fn = true) c179 (all_cons (p := fun f fn => codeB f fn = true) c180 (all_cons (p := fun f fn => codeB f fn = true) c181 (all_cons (p := fun f fn => codeB f fn = true) c182 (all_cons (p := fun f fn => codeB f fn = true) c187 (all_cons (p := fun f fn => codeB f fn = true) c188 (all_cons (p := fun f fn => codeB f fn = true) c189 (all_cons (p := fun f fn => codeB f fn = true) c194 (all_cons (p := fun f fn => codeB f fn = true) c195 (all_cons (p := fun f fn => codeB f fn = true) c196 (all_nil (p := fun f fn => codeB f fn = true))))))))))))))))))))))))))))))))))))))))))))))))))))))))))))))))))))))))))))))))))))))))))))))))))))))))))))))
theorem fnsOk : FnsOk Tryz.prog info where
  mixed := by kernel_rfl
  fn := fun f fn h => lk_all (p := InP) allIn h
  code := fun f fn body h hb => by
    have := lk_all (p := fun f fn => codeB f fn = true) allCode h
    unfold codeB at this
    rw [hb] at this
    exact this
end Go.Proofs.YteiefdnhngfojaaGreatDoor.VmI
