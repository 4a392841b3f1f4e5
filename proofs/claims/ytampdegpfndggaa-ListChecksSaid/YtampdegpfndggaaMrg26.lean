/-
  Merged: XTab, XNumE.
-/
import Derived.Test.YtampdegpfndggaaProg
import Derived.Test.YtampdegpfndggaaEng2
import Derived.Test.YtampdegpfndggaaMrg3
namespace Go.Proofs.Ytampdegpfndggaa
open Go.RowKit
set_option linter.unusedVariables false

def tab : Tab := [
  (1, ⟨.fn, 1, 8, [.nilFunc]⟩),
  (2, ⟨.int .i64, 1, 8, [.int .i64 0]⟩),
  (3, ⟨.int .i64, 1, 8, [.int .i64 0]⟩),
  (4, ⟨.bool, 1, 1, [.bool false]⟩),
  (5, ⟨.int .u8, 1, 1, [.int .u8 0]⟩),
  (9, ⟨.str, 1, 16, [.string ByteArray.empty]⟩),
  (12, ⟨.int .u64, 1, 8, [.int .u64 0]⟩),
  (17, ⟨.ptr 192, 1, 8, [.pointer none]⟩),
  (21, ⟨.int .i32, 1, 4, [.int .i32 0]⟩),
  (22, ⟨.int .i64, 1, 8, [.int .i64 0]⟩),
  (24, ⟨.fn, 1, 8, [.nilFunc]⟩),
  (25, ⟨.fn, 1, 8, [.nilFunc]⟩),
  (26, ⟨.fn, 1, 8, [.nilFunc]⟩),
  (27, ⟨.fn, 1, 8, [.nilFunc]⟩),
  (28, ⟨.arr 8 5, 8, 8, [.int .u8 0, .int .u8 0, .int .u8 0, .int .u8 0, .int .u8 0, .int .u8 0, .int .u8 0, .int .u8 0]⟩),
  (29, ⟨.arr 8 5, 8, 8, [.int .u8 0, .int .u8 0, .int .u8 0, .int .u8 0, .int .u8 0, .int .u8 0, .int .u8 0, .int .u8 0]⟩),
  (30, ⟨.strct [(0, 5), (1, 29)], 9, 9, [.int .u8 0, .int .u8 0, .int .u8 0, .int .u8 0, .int .u8 0, .int .u8 0, .int .u8 0, .int .u8 0, .int .u8 0]⟩),
  (31, ⟨.strct [(0, 5), (1, 29)], 9, 9, [.int .u8 0, .int .u8 0, .int .u8 0, .int .u8 0, .int .u8 0, .int .u8 0, .int .u8 0, .int .u8 0, .int .u8 0]⟩),
  (32, ⟨.fn, 1, 8, [.nilFunc]⟩),
  (34, ⟨.fn, 1, 8, [.nilFunc]⟩),
  (35, ⟨.fn, 1, 8, [.nilFunc]⟩),
  (36, ⟨.fn, 1, 8, [.nilFunc]⟩),
  (37, ⟨.fn, 1, 8, [.nilFunc]⟩),
  (38, ⟨.fn, 1, 8, [.nilFunc]⟩),
  (39, ⟨.fn, 1, 8, [.nilFunc]⟩),
  (40, ⟨.fn, 1, 8, [.nilFunc]⟩),
  (41, ⟨.slice 110, 1, 24, [.slice none 0 0]⟩),
  (43, ⟨.fn, 1, 8, [.nilFunc]⟩),
  (44, ⟨.fn, 1, 8, [.nilFunc]⟩),
  (45, ⟨.fn, 1, 8, [.nilFunc]⟩),
  (46, ⟨.fn, 1, 8, [.nilFunc]⟩),
  (47, ⟨.strct [(0, 3), (1, 3)], 2, 16, [.int .i64 0, .int .i64 0]⟩),
  (48, ⟨.strct [(0, 3), (1, 3)], 2, 16, [.int .i64 0, .int .i64 0]⟩),
  (49, ⟨.slice 29, 1, 24, [.slice none 0 0]⟩),
  (50, ⟨.slice 5, 1, 24, [.slice none 0 0]⟩),
  (51, ⟨.strct [(0, 3), (1, 3), (2, 3), (3, 3), (4, 3), (5, 3)], 6, 48, [.int .i64 0, .int .i64 0, .int .i64 0, .int .i64 0, .int .i64 0, .int .i64 0]⟩),
  (52, ⟨.strct [(0, 3), (1, 3), (2, 3), (3, 3), (4, 3), (5, 3)], 6, 48, [.int .i64 0, .int .i64 0, .int .i64 0, .int .i64 0, .int .i64 0, .int .i64 0]⟩),
  (53, ⟨.strct [(0, 3), (1, 3), (2, 49), (3, 50), (4, 52), (10, 4), (11, 4)], 12, 120, [.int .i64 0, .int .i64 0, .slice none 0 0, .slice none 0 0, .int .i64 0, .int .i64 0, .int .i64 0, .int .i64 0, .int .i64 0, .int .i64 0, .bool false, .bool false]⟩),
  (54, ⟨.strct [(0, 3), (1, 3), (2, 49), (3, 50), (4, 52), (10, 4), (11, 4)], 12, 120, [.int .i64 0, .int .i64 0, .slice none 0 0, .slice none 0 0, .int .i64 0, .int .i64 0, .int .i64 0, .int .i64 0, .int .i64 0, .int .i64 0, .bool false, .bool false]⟩),
  (55, ⟨.strct [(0, 3), (1, 29), (9, 48), (11, 48), (13, 3), (14, 41), (15, 54)], 27, 200, [.int .i64 0, .int .u8 0, .int .u8 0, .int .u8 0, .int .u8 0, .int .u8 0, .int .u8 0, .int .u8 0, .int .u8 0, .int .i64 0, .int .i64 0, .int .i64 0, .int .i64 0, .int .i64 0, .slice none 0 0, .int .i64 0, .int .i64 0, .slice none 0 0, .slice none 0 0, .int .i64 0, .int .i64 0, .int .i64 0, .int .i64 0, .int .i64 0, .int .i64 0, .bool false, .bool false]⟩),
  (56, ⟨.strct [(0, 3), (1, 29), (9, 48), (11, 48), (13, 3), (14, 41), (15, 54)], 27, 200, [.int .i64 0, .int .u8 0, .int .u8 0, .int .u8 0, .int .u8 0, .int .u8 0, .int .u8 0, .int .u8 0, .int .u8 0, .int .i64 0, .int .i64 0, .int .i64 0, .int .i64 0, .int .i64 0, .slice none 0 0, .int .i64 0, .int .i64 0, .slice none 0 0, .slice none 0 0, .int .i64 0, .int .i64 0, .int .i64 0, .int .i64 0, .int .i64 0, .int .i64 0, .bool false, .bool false]⟩),
  (58, ⟨.fn, 1, 8, [.nilFunc]⟩),
  (59, ⟨.fn, 1, 8, [.nilFunc]⟩),
  (60, ⟨.fn, 1, 8, [.nilFunc]⟩),
  (61, ⟨.fn, 1, 8, [.nilFunc]⟩),
  (62, ⟨.fn, 1, 8, [.nilFunc]⟩),
  (63, ⟨.fn, 1, 8, [.nilFunc]⟩),
  (65, ⟨.fn, 1, 8, [.nilFunc]⟩),
  (66, ⟨.fn, 1, 8, [.nilFunc]⟩),
  (68, ⟨.fn, 1, 8, [.nilFunc]⟩),
  (69, ⟨.fn, 1, 8, [.nilFunc]⟩),
  (71, ⟨.fn, 1, 8, [.nilFunc]⟩),
  (72, ⟨.fn, 1, 8, [.nilFunc]⟩),
  (73, ⟨.slice 9, 1, 24, [.slice none 0 0]⟩),
  (74, ⟨.slice 127, 1, 24, [.slice none 0 0]⟩),
  (75, ⟨.strct [(0, 3), (1, 3), (2, 73), (3, 74)], 4, 64, [.int .i64 0, .int .i64 0, .slice none 0 0, .slice none 0 0]⟩),
  (76, ⟨.strct [(0, 3), (1, 3), (2, 73), (3, 74)], 4, 64, [.int .i64 0, .int .i64 0, .slice none 0 0, .slice none 0 0]⟩),
  (77, ⟨.fn, 1, 8, [.nilFunc]⟩),
  (78, ⟨.fn, 1, 8, [.nilFunc]⟩),
  (79, ⟨.fn, 1, 8, [.nilFunc]⟩),
  (80, ⟨.fn, 1, 8, [.nilFunc]⟩),
  (81, ⟨.fn, 1, 8, [.nilFunc]⟩),
  (82, ⟨.strct [(0, 3), (1, 3), (2, 3), (3, 3), (4, 3), (5, 3)], 6, 48, [.int .i64 0, .int .i64 0, .int .i64 0, .int .i64 0, .int .i64 0, .int .i64 0]⟩),
  (83, ⟨.strct [(0, 3), (1, 3), (2, 3), (3, 3), (4, 3), (5, 3)], 6, 48, [.int .i64 0, .int .i64 0, .int .i64 0, .int .i64 0, .int .i64 0, .int .i64 0]⟩),
  (84, ⟨.slice 48, 1, 24, [.slice none 0 0]⟩),
  (86, ⟨.fn, 1, 8, [.nilFunc]⟩),
  (87, ⟨.fn, 1, 8, [.nilFunc]⟩),
  (88, ⟨.fn, 1, 8, [.nilFunc]⟩),
  (89, ⟨.fn, 1, 8, [.nilFunc]⟩),
  (90, ⟨.fn, 1, 8, [.nilFunc]⟩),
  (91, ⟨.fn, 1, 8, [.nilFunc]⟩),
  (92, ⟨.strct [(0, 84), (1, 4)], 2, 32, [.slice none 0 0, .bool false]⟩),
  (93, ⟨.strct [(0, 84), (1, 4)], 2, 32, [.slice none 0 0, .bool false]⟩),
  (94, ⟨.fn, 1, 8, [.nilFunc]⟩),
  (95, ⟨.fn, 1, 8, [.nilFunc]⟩),
  (96, ⟨.slice 93, 1, 24, [.slice none 0 0]⟩),
  (97, ⟨.slice 3, 1, 24, [.slice none 0 0]⟩),
  (99, ⟨.fn, 1, 8, [.nilFunc]⟩),
  (100, ⟨.fn, 1, 8, [.nilFunc]⟩),
  (101, ⟨.fn, 1, 8, [.nilFunc]⟩),
  (102, ⟨.fn, 1, 8, [.nilFunc]⟩),
  (103, ⟨.fn, 1, 8, [.nilFunc]⟩),
  (104, ⟨.fn, 1, 8, [.nilFunc]⟩),
  (105, ⟨.fn, 1, 8, [.nilFunc]⟩),
  (106, ⟨.arr 2 31, 18, 18, [.int .u8 0, .int .u8 0, .int .u8 0, .int .u8 0, .int .u8 0, .int .u8 0, .int .u8 0, .int .u8 0, .int .u8 0, .int .u8 0, .int .u8 0, .int .u8 0, .int .u8 0, .int .u8 0, .int .u8 0, .int .u8 0, .int .u8 0, .int .u8 0]⟩),
  (107, ⟨.fn, 1, 8, [.nilFunc]⟩),
  (108, ⟨.fn, 1, 8, [.nilFunc]⟩),
  (109, ⟨.strct [(0, 3), (1, 29)], 9, 16, [.int .i64 0, .int .u8 0, .int .u8 0, .int .u8 0, .int .u8 0, .int .u8 0, .int .u8 0, .int .u8 0, .int .u8 0]⟩),
  (110, ⟨.strct [(0, 3), (1, 29)], 9, 16, [.int .i64 0, .int .u8 0, .int .u8 0, .int .u8 0, .int .u8 0, .int .u8 0, .int .u8 0, .int .u8 0, .int .u8 0]⟩),
  (111, ⟨.fn, 1, 8, [.nilFunc]⟩),
  (112, ⟨.fn, 1, 8, [.nilFunc]⟩),
  (114, ⟨.fn, 1, 8, [.nilFunc]⟩),
  (116, ⟨.fn, 1, 8, [.nilFunc]⟩),
  (117, ⟨.strct [(0, 54), (12, 52)], 18, 168, [.int .i64 0, .int .i64 0, .slice none 0 0, .slice none 0 0, .int .i64 0, .int .i64 0, .int .i64 0, .int .i64 0, .int .i64 0, .int .i64 0, .bool false, .bool false, .int .i64 0, .int .i64 0, .int .i64 0, .int .i64 0, .int .i64 0, .int .i64 0]⟩),
  (118, ⟨.strct [(0, 54), (12, 52)], 18, 168, [.int .i64 0, .int .i64 0, .slice none 0 0, .slice none 0 0, .int .i64 0, .int .i64 0, .int .i64 0, .int .i64 0, .int .i64 0, .int .i64 0, .bool false, .bool false, .int .i64 0, .int .i64 0, .int .i64 0, .int .i64 0, .int .i64 0, .int .i64 0]⟩),
  (119, ⟨.fn, 1, 8, [.nilFunc]⟩),
  (120, ⟨.fn, 1, 8, [.nilFunc]⟩),
  (121, ⟨.arr 8 3, 8, 64, [.int .i64 0, .int .i64 0, .int .i64 0, .int .i64 0, .int .i64 0, .int .i64 0, .int .i64 0, .int .i64 0]⟩),
  (122, ⟨.fn, 1, 8, [.nilFunc]⟩),
  (123, ⟨.fn, 1, 8, [.nilFunc]⟩),
  (124, ⟨.fn, 1, 8, [.nilFunc]⟩),
  (125, ⟨.slice 170, 1, 24, [.slice none 0 0]⟩),
  (126, ⟨.strct [(0, 3), (1, 125), (2, 56), (29, 5), (30, 3), (31, 4), (32, 4), (33, 4)], 34, 256, [.int .i64 0, .slice none 0 0, .int .i64 0, .int .u8 0, .int .u8 0, .int .u8 0, .int .u8 0, .int .u8 0, .int .u8 0, .int .u8 0, .int .u8 0, .int .i64 0, .int .i64 0, .int .i64 0, .int .i64 0, .int .i64 0, .slice none 0 0, .int .i64 0, .int .i64 0, .slice none 0 0, .slice none 0 0, .int .i64 0, .int .i64 0, .int .i64 0, .int .i64 0, .int .i64 0, .int .i64 0, .bool false, .bool false, .int .u8 0, .int .i64 0, .bool false, .bool false, .bool false]⟩),
  (127, ⟨.strct [(0, 3), (1, 125), (2, 56), (29, 5), (30, 3), (31, 4), (32, 4), (33, 4)], 34, 256, [.int .i64 0, .slice none 0 0, .int .i64 0, .int .u8 0, .int .u8 0, .int .u8 0, .int .u8 0, .int .u8 0, .int .u8 0, .int .u8 0, .int .u8 0, .int .i64 0, .int .i64 0, .int .i64 0, .int .i64 0, .int .i64 0, .slice none 0 0, .int .i64 0, .int .i64 0, .slice none 0 0, .slice none 0 0, .int .i64 0, .int .i64 0, .int .i64 0, .int .i64 0, .int .i64 0, .int .i64 0, .bool false, .bool false, .int .u8 0, .int .i64 0, .bool false, .bool false, .bool false]⟩),
  (128, ⟨.fn, 1, 8, [.nilFunc]⟩),
  (129, ⟨.fn, 1, 8, [.nilFunc]⟩),
  (130, ⟨.fn, 1, 8, [.nilFunc]⟩),
  (131, ⟨.fn, 1, 8, [.nilFunc]⟩),
  (132, ⟨.fn, 1, 8, [.nilFunc]⟩),
  (133, ⟨.fn, 1, 8, [.nilFunc]⟩),
  (134, ⟨.fn, 1, 8, [.nilFunc]⟩),
  (135, ⟨.strct [(0, 3), (1, 3), (2, 3), (3, 3)], 4, 32, [.int .i64 0, .int .i64 0, .int .i64 0, .int .i64 0]⟩),
  (136, ⟨.strct [(0, 3), (1, 3), (2, 3), (3, 3)], 4, 32, [.int .i64 0, .int .i64 0, .int .i64 0, .int .i64 0]⟩),
  (138, ⟨.fn, 1, 8, [.nilFunc]⟩),
  (140, ⟨.fn, 1, 8, [.nilFunc]⟩),
  (141, ⟨.slice 163, 1, 24, [.slice none 0 0]⟩),
  (143, ⟨.fn, 1, 8, [.nilFunc]⟩),
  (144, ⟨.fn, 1, 8, [.nilFunc]⟩),
  (146, ⟨.fn, 1, 8, [.nilFunc]⟩),
  (147, ⟨.fn, 1, 8, [.nilFunc]⟩),
  (148, ⟨.fn, 1, 8, [.nilFunc]⟩),
  (149, ⟨.int .u64, 1, 8, [.int .u64 0]⟩),
  (150, ⟨.fn, 1, 8, [.nilFunc]⟩),
  (151, ⟨.fn, 1, 8, [.nilFunc]⟩),
  (152, ⟨.fn, 1, 8, [.nilFunc]⟩),
  (153, ⟨.fn, 1, 8, [.nilFunc]⟩),
  (154, ⟨.strct [(0, 48), (2, 48), (4, 48), (6, 3)], 7, 56, [.int .i64 0, .int .i64 0, .int .i64 0, .int .i64 0, .int .i64 0, .int .i64 0, .int .i64 0]⟩),
  (155, ⟨.strct [(0, 48), (2, 48), (4, 48), (6, 3)], 7, 56, [.int .i64 0, .int .i64 0, .int .i64 0, .int .i64 0, .int .i64 0, .int .i64 0, .int .i64 0]⟩),
  (156, ⟨.fn, 1, 8, [.nilFunc]⟩),
  (157, ⟨.fn, 1, 8, [.nilFunc]⟩),
  (158, ⟨.strct [(0, 141)], 1, 24, [.slice none 0 0]⟩),
  (159, ⟨.strct [(0, 141)], 1, 24, [.slice none 0 0]⟩),
  (160, ⟨.fn, 1, 8, [.nilFunc]⟩),
  (161, ⟨.fn, 1, 8, [.nilFunc]⟩),
  (162, ⟨.strct [(0, 48), (2, 48), (4, 3), (5, 3)], 6, 48, [.int .i64 0, .int .i64 0, .int .i64 0, .int .i64 0, .int .i64 0, .int .i64 0]⟩),
  (163, ⟨.strct [(0, 48), (2, 48), (4, 3), (5, 3)], 6, 48, [.int .i64 0, .int .i64 0, .int .i64 0, .int .i64 0, .int .i64 0, .int .i64 0]⟩),
  (164, ⟨.fn, 1, 8, [.nilFunc]⟩),
  (165, ⟨.arr 12 105, 12, 96, [.nilFunc, .nilFunc, .nilFunc, .nilFunc, .nilFunc, .nilFunc, .nilFunc, .nilFunc, .nilFunc, .nilFunc, .nilFunc, .nilFunc]⟩),
  (166, ⟨.fn, 1, 8, [.nilFunc]⟩),
  (167, ⟨.fn, 1, 8, [.nilFunc]⟩),
  (168, ⟨.arr 4 3, 4, 32, [.int .i64 0, .int .i64 0, .int .i64 0, .int .i64 0]⟩),
  (169, ⟨.strct [(0, 3), (1, 3), (2, 3)], 3, 24, [.int .i64 0, .int .i64 0, .int .i64 0]⟩),
  (170, ⟨.strct [(0, 3), (1, 3), (2, 3)], 3, 24, [.int .i64 0, .int .i64 0, .int .i64 0]⟩),
  (171, ⟨.ptr 159, 1, 8, [.pointer none]⟩),
  (172, ⟨.fn, 1, 8, [.nilFunc]⟩),
  (173, ⟨.fn, 1, 8, [.nilFunc]⟩),
  (174, ⟨.fn, 1, 8, [.nilFunc]⟩),
  (175, ⟨.int .u32, 1, 4, [.int .u32 0]⟩),
  (176, ⟨.fn, 1, 8, [.nilFunc]⟩),
  (177, ⟨.int .u64, 1, 8, [.int .u64 0]⟩),
  (178, ⟨.fn, 1, 8, [.nilFunc]⟩),
  (179, ⟨.fn, 1, 8, [.nilFunc]⟩),
  (187, ⟨.fn, 1, 8, [.nilFunc]⟩),
  (188, ⟨.ptr 5, 1, 8, [.pointer none]⟩),
  (191, ⟨.strct [(0, 12), (1, 12), (2, 175), (3, 185), (4, 5), (5, 5), (6, 186), (7, 187), (8, 188), (9, 189), (10, 190)], 11, 48, [.int .u64 0, .int .u64 0, .int .u32 0, .int .u8 0, .int .u8 0, .int .u8 0, .int .u8 0, .nilFunc, .pointer none, .int .i32 0, .int .i32 0]⟩)]
set_option maxRecDepth 100000 in
theorem tab_ok : TOk Try.prog tab := by unfold TOk; kernel_rfl
theorem eq29 {x y : Operand} {l m : List AV} {K : Bool → Prop} (h : plainF l fun xs => plainF m fun ys => testP (kindsB [.int .u8, .int .u8, .int .u8, .int .u8, .int .u8, .int .u8, .int .u8, .int .u8] xs) (testP (kindsB [.int .u8, .int .u8, .int .u8, .int .u8, .int .u8, .int .u8, .int .u8, .int .u8] ys) (eqListF xs ys K))) : EqP Try.prog 29 x y (.agg l) (.agg m) K := EqP_agg (ks := [.int .u8, .int .u8, .int .u8, .int .u8, .int .u8, .int .u8, .int .u8, .int .u8]) (by kernel_rfl) (by kernel_rfl) (by kernel_rfl) h
theorem eq31 {x y : Operand} {l m : List AV} {K : Bool → Prop} (h : plainF l fun xs => plainF m fun ys => testP (kindsB [.int .u8, .int .u8, .int .u8, .int .u8, .int .u8, .int .u8, .int .u8, .int .u8, .int .u8] xs) (testP (kindsB [.int .u8, .int .u8, .int .u8, .int .u8, .int .u8, .int .u8, .int .u8, .int .u8, .int .u8] ys) (eqListF xs ys K))) : EqP Try.prog 31 x y (.agg l) (.agg m) K := EqP_agg (ks := [.int .u8, .int .u8, .int .u8, .int .u8, .int .u8, .int .u8, .int .u8, .int .u8, .int .u8]) (by kernel_rfl) (by kernel_rfl) (by kernel_rfl) h
theorem eq48 {x y : Operand} {l m : List AV} {K : Bool → Prop} (h : plainF l fun xs => plainF m fun ys => testP (kindsB [.int .i64, .int .i64] xs) (testP (kindsB [.int .i64, .int .i64] ys) (eqListF xs ys K))) : EqP Try.prog 48 x y (.agg l) (.agg m) K := EqP_agg (ks := [.int .i64, .int .i64]) (by kernel_rfl) (by kernel_rfl) (by kernel_rfl) h
theorem eq52 {x y : Operand} {l m : List AV} {K : Bool → Prop} (h : plainF l fun xs => plainF m fun ys => testP (kindsB [.int .i64, .int .i64, .int .i64, .int .i64, .int .i64, .int .i64] xs) (testP (kindsB [.int .i64, .int .i64, .int .i64, .int .i64, .int .i64, .int .i64] ys) (eqListF xs ys K))) : EqP Try.prog 52 x y (.agg l) (.agg m) K := EqP_agg (ks := [.int .i64, .int .i64, .int .i64, .int .i64, .int .i64, .int .i64]) (by kernel_rfl) (by kernel_rfl) (by kernel_rfl) h
theorem eq83 {x y : Operand} {l m : List AV} {K : Bool → Prop} (h : plainF l fun xs => plainF m fun ys => testP (kindsB [.int .i64, .int .i64, .int .i64, .int .i64, .int .i64, .int .i64] xs) (testP (kindsB [.int .i64, .int .i64, .int .i64, .int .i64, .int .i64, .int .i64] ys) (eqListF xs ys K))) : EqP Try.prog 83 x y (.agg l) (.agg m) K := EqP_agg (ks := [.int .i64, .int .i64, .int .i64, .int .i64, .int .i64, .int .i64]) (by kernel_rfl) (by kernel_rfl) (by kernel_rfl) h
theorem eq110 {x y : Operand} {l m : List AV} {K : Bool → Prop} (h : plainF l fun xs => plainF m fun ys => testP (kindsB [.int .i64, .int .u8, .int .u8, .int .u8, .int .u8, .int .u8, .int .u8, .int .u8, .int .u8] xs) (testP (kindsB [.int .i64, .int .u8, .int .u8, .int .u8, .int .u8, .int .u8, .int .u8, .int .u8, .int .u8] ys) (eqListF xs ys K))) : EqP Try.prog 110 x y (.agg l) (.agg m) K := EqP_agg (ks := [.int .i64, .int .u8, .int .u8, .int .u8, .int .u8, .int .u8, .int .u8, .int .u8, .int .u8]) (by kernel_rfl) (by kernel_rfl) (by kernel_rfl) h
theorem eq136 {x y : Operand} {l m : List AV} {K : Bool → Prop} (h : plainF l fun xs => plainF m fun ys => testP (kindsB [.int .i64, .int .i64, .int .i64, .int .i64] xs) (testP (kindsB [.int .i64, .int .i64, .int .i64, .int .i64] ys) (eqListF xs ys K))) : EqP Try.prog 136 x y (.agg l) (.agg m) K := EqP_agg (ks := [.int .i64, .int .i64, .int .i64, .int .i64]) (by kernel_rfl) (by kernel_rfl) (by kernel_rfl) h
theorem eq155 {x y : Operand} {l m : List AV} {K : Bool → Prop} (h : plainF l fun xs => plainF m fun ys => testP (kindsB [.int .i64, .int .i64, .int .i64, .int .i64, .int .i64, .int .i64, .int .i64] xs) (testP (kindsB [.int .i64, .int .i64, .int .i64, .int .i64, .int .i64, .int .i64, .int .i64] ys) (eqListF xs ys K))) : EqP Try.prog 155 x y (.agg l) (.agg m) K := EqP_agg (ks := [.int .i64, .int .i64, .int .i64, .int .i64, .int .i64, .int .i64, .int .i64]) (by kernel_rfl) (by kernel_rfl) (by kernel_rfl) h
theorem eq163 {x y : Operand} {l m : List AV} {K : Bool → Prop} (h : plainF l fun xs => plainF m fun ys => testP (kindsB [.int .i64, .int .i64, .int .i64, .int .i64, .int .i64, .int .i64] xs) (testP (kindsB [.int .i64, .int .i64, .int .i64, .int .i64, .int .i64, .int .i64] ys) (eqListF xs ys K))) : EqP Try.prog 163 x y (.agg l) (.agg m) K := EqP_agg (ks := [.int .i64, .int .i64, .int .i64, .int .i64, .int .i64, .int .i64]) (by kernel_rfl) (by kernel_rfl) (by kernel_rfl) h
theorem eq170 {x y : Operand} {l m : List AV} {K : Bool → Prop} (h : plainF l fun xs => plainF m fun ys => testP (kindsB [.int .i64, .int .i64, .int .i64] xs) (testP (kindsB [.int .i64, .int .i64, .int .i64] ys) (eqListF xs ys K))) : EqP Try.prog 170 x y (.agg l) (.agg m) K := EqP_agg (ks := [.int .i64, .int .i64, .int .i64]) (by kernel_rfl) (by kernel_rfl) (by kernel_rfl) h
end Go.Proofs.Ytampdegpfndggaa

namespace Go.Proofs.Ytampdegpfndggaa
open Go.RowKit
set_option linter.unusedVariables false
set_option maxRecDepth 20000
theorem Quo_gives {a b : Int} {G : Mem} (ha : -4611686018427387904 ≤ a ∧ a ≤ 4611686018427387904) (hb : 1 ≤ b ∧ b ≤ 4611686018427387904) : Gives Try.prog 103 [.val (.int .i64 a), .val (.int .i64 b)] G (.val (.int .i64 (a / b))) :=
  Gives.of_calls (args := [.int .i64 a, .int .i64 b]) fun w _ => (Quo_any a b w ha hb).mono fun _ _ h => ⟨h.1, h.2 ▸ Below.refl _ _⟩
theorem Near_gives {a b : Int} {G : Mem} (ha : -4611686018427387904 ≤ a ∧ a ≤ 4611686018427387904) (hb : 1 ≤ b ∧ b ≤ 4611686018427387904) : Gives Try.prog 100 [.val (.int .i64 a), .val (.int .i64 b)] G (.val (.int .i64 (near a b))) :=
  Gives.of_calls (args := [.int .i64 a, .int .i64 b]) fun w _ => (Near_any a b w ha hb).mono fun _ _ h => ⟨h.1, h.2 ▸ Below.refl _ _⟩
theorem RCallP_near {a b : Int} {hp : List Blk} {G : Mem} {K : AV → Prop} (c : Int) (e : near a b = c) (ha : -4611686018427387904 ≤ a ∧ a ≤ 4611686018427387904) (hb : 1 ≤ b ∧ b ≤ 4611686018427387904) (h : K (.val (.int .i64 c))) : RCallP Try.prog 100 [.val (.int .i64 a), .val (.int .i64 b)] hp G K := RCallP_gives (fun vs w => by kernel_rfl) (by rfl) (Near_gives ha hb) (by rw [e]; exact h)
theorem RCallP_quo {a b : Int} {hp : List Blk} {G : Mem} {K : AV → Prop} (c : Int) (e : a / b = c) (ha : -4611686018427387904 ≤ a ∧ a ≤ 4611686018427387904) (hb : 1 ≤ b ∧ b ≤ 4611686018427387904) (h : K (.val (.int .i64 c))) : RCallP Try.prog 103 [.val (.int .i64 a), .val (.int .i64 b)] hp G K := RCallP_gives (fun vs w => by kernel_rfl) (by rfl) (Quo_gives ha hb) (by rw [e]; exact h)
theorem CallP_near {a b : Int} {hp : List Blk} {G : Mem} {K : AV → List Blk → Mem → Prop} (c : Int) (e : near a b = c) (ha : -4611686018427387904 ≤ a ∧ a ≤ 4611686018427387904) (hb : 1 ≤ b ∧ b ≤ 4611686018427387904) (h : K (.val (.int .i64 c)) hp G) : CallP Try.prog 100 [.val (.int .i64 a), .val (.int .i64 b)] hp G K := CallP_gives (fun vs w => by kernel_rfl) (by rfl) (Near_gives ha hb) (by rw [e]; exact h)
theorem CallP_quo {a b : Int} {hp : List Blk} {G : Mem} {K : AV → List Blk → Mem → Prop} (c : Int) (e : a / b = c) (ha : -4611686018427387904 ≤ a ∧ a ≤ 4611686018427387904) (hb : 1 ≤ b ∧ b ≤ 4611686018427387904) (h : K (.val (.int .i64 c)) hp G) : CallP Try.prog 103 [.val (.int .i64 a), .val (.int .i64 b)] hp G K := CallP_gives (fun vs w => by kernel_rfl) (by rfl) (Quo_gives ha hb) (by rw [e]; exact h)
end Go.Proofs.Ytampdegpfndggaa
